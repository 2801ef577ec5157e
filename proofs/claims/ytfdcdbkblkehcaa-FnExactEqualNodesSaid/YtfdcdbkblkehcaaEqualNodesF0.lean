import Derived.KernelRfl
import Derived.Test.YtfdcdbkblkehcaaAmW
namespace Go.Proofs.Ytfdcdbkblkehcaa.Am
open Go
set_option linter.unusedVariables false
set_option maxRecDepth 100000

/- loop.example/g01924/laws.eqVersion -/
def laws_eqVersion_ac : AC :=
 (.seq (.region 0 [⟨some 2, .box false (.t 0), none⟩,
  ⟨some 3, .box false (.t 1), none⟩,
  ⟨some 4, .mv (.c (.bool false)), none⟩])
 (.seq (.seq (.region 0 [⟨some 5, .faddr 0 0 (.t 2), none⟩,
  ⟨some 6, .load false 1 (.t 5), none⟩,
  ⟨some 7, .faddr 0 0 (.t 3), none⟩,
  ⟨some 8, .load false 1 (.t 7), none⟩,
  ⟨some 9, .bin .neq (.t 6) (.t 8), none⟩])
 (.cond (.t 9) (.seq (.region 0 [⟨some 4, .mv (.c (.bool false)), none⟩])
 .ret) .skip))
 (.seq (.seq (.region 0 [⟨some 10, .faddr 1 1 (.t 2), none⟩,
  ⟨some 11, .load false 1 (.t 10), none⟩,
  ⟨some 12, .faddr 1 1 (.t 3), none⟩,
  ⟨some 13, .load false 1 (.t 12), none⟩,
  ⟨some 14, .bin .neq (.t 11) (.t 13), none⟩])
 (.cond (.t 14) (.seq (.region 0 [⟨some 4, .mv (.c (.bool false)), none⟩])
 .ret) .skip))
 (.seq (.seq (.region 0 [⟨some 15, .faddr 2 2 (.t 2), none⟩,
  ⟨some 16, .load false 1 (.t 15), none⟩,
  ⟨some 17, .faddr 2 2 (.t 3), none⟩,
  ⟨some 18, .load false 1 (.t 17), none⟩,
  ⟨some 19, .bin .neq (.t 16) (.t 18), none⟩])
 (.cond (.t 19) (.seq (.region 0 [⟨some 4, .mv (.c (.bool false)), none⟩])
 .ret) .skip))
 (.seq (.seq (.region 0 [⟨some 20, .faddr 3 3 (.t 2), none⟩,
  ⟨some 21, .load false 1 (.t 20), none⟩,
  ⟨some 22, .faddr 3 3 (.t 3), none⟩,
  ⟨some 23, .load false 1 (.t 22), none⟩,
  ⟨some 24, .bin .neq (.t 21) (.t 23), none⟩])
 (.cond (.t 24) (.seq (.region 0 [⟨some 4, .mv (.c (.bool false)), none⟩])
 .ret) .skip))
 (.seq (.seq (.region 0 [⟨some 25, .faddr 4 4 (.t 2), none⟩,
  ⟨some 26, .load false 1 (.t 25), none⟩,
  ⟨some 27, .faddr 4 4 (.t 3), none⟩,
  ⟨some 28, .load false 1 (.t 27), none⟩,
  ⟨some 29, .bin .neq (.t 26) (.t 28), none⟩])
 (.cond (.t 29) (.seq (.region 0 [⟨some 4, .mv (.c (.bool false)), none⟩])
 .ret) .skip))
 (.seq (.region 0 [⟨some 4, .mv (.c (.bool true)), none⟩])
 .ret)))))))

theorem laws_eqVersion_eq (E : Env) (a0 : U) (a1 : U) : run E laws_eqVersion_ac [(4, none)] [a0, a1] =
 U.noTup a0 fun x1 => U.noTup a1 fun x2 => U.asAgg x1 fun us3 => if 0 = sizes (us3.take 0) then (us3[0]?).bind fun e4 => U.asVar false 1 e4 fun e5 => U.asAgg x2 fun us6 => if 0 = sizes (us6.take 0) then (us6[0]?).bind fun e7 => U.asVar false 1 e7 fun e8 => (U.bin .neq e5 e8).bind fun t9 => U.asBool t9
 (some (.bool false))
 (U.asAgg x1 fun us10 => if 1 = sizes (us10.take 1) then (us10[1]?).bind fun e11 => U.asVar false 1 e11 fun e12 => U.asAgg x2 fun us13 => if 1 = sizes (us13.take 1) then (us13[1]?).bind fun e14 => U.asVar false 1 e14 fun e15 => (U.bin .neq e12 e15).bind fun t16 => U.asBool t16
 (some (.bool false))
 (U.asAgg x1 fun us17 => if 2 = sizes (us17.take 2) then (us17[2]?).bind fun e18 => U.asVar false 1 e18 fun e19 => U.asAgg x2 fun us20 => if 2 = sizes (us20.take 2) then (us20[2]?).bind fun e21 => U.asVar false 1 e21 fun e22 => (U.bin .neq e19 e22).bind fun t23 => U.asBool t23
 (some (.bool false))
 (U.asAgg x1 fun us24 => if 3 = sizes (us24.take 3) then (us24[3]?).bind fun e25 => U.asVar false 1 e25 fun e26 => U.asAgg x2 fun us27 => if 3 = sizes (us27.take 3) then (us27[3]?).bind fun e28 => U.asVar false 1 e28 fun e29 => (U.bin .neq e26 e29).bind fun t30 => U.asBool t30
 (some (.bool false))
 (U.asAgg x1 fun us31 => if 4 = sizes (us31.take 4) then (us31[4]?).bind fun e32 => U.asVar false 1 e32 fun e33 => U.asAgg x2 fun us34 => if 4 = sizes (us34.take 4) then (us34[4]?).bind fun e35 => U.asVar false 1 e35 fun e36 => (U.bin .neq e33 e36).bind fun t37 => U.asBool t37
 (some (.bool false))
 (some (.bool true)) else none else none) else none else none) else none else none) else none else none) else none else none := by kernel_rfl

/-- In the environment E: this function and those that it calls. -/
structure G_laws_eqVersion (E : Env) : Prop where
  is : Is E 120 2 laws_eqVersion_ac [(4, none)]
theorem laws_eqVersion_E {E : Env} (h : G_laws_eqVersion E) (a0 a1 : U) : E 120 [a0, a1] =
 U.noTup a0 fun x1 => U.noTup a1 fun x2 => U.asAgg x1 fun us3 => if 0 = sizes (us3.take 0) then (us3[0]?).bind fun e4 => U.asVar false 1 e4 fun e5 => U.asAgg x2 fun us6 => if 0 = sizes (us6.take 0) then (us6[0]?).bind fun e7 => U.asVar false 1 e7 fun e8 => (U.bin .neq e5 e8).bind fun t9 => U.asBool t9
 (some (.bool false))
 (U.asAgg x1 fun us10 => if 1 = sizes (us10.take 1) then (us10[1]?).bind fun e11 => U.asVar false 1 e11 fun e12 => U.asAgg x2 fun us13 => if 1 = sizes (us13.take 1) then (us13[1]?).bind fun e14 => U.asVar false 1 e14 fun e15 => (U.bin .neq e12 e15).bind fun t16 => U.asBool t16
 (some (.bool false))
 (U.asAgg x1 fun us17 => if 2 = sizes (us17.take 2) then (us17[2]?).bind fun e18 => U.asVar false 1 e18 fun e19 => U.asAgg x2 fun us20 => if 2 = sizes (us20.take 2) then (us20[2]?).bind fun e21 => U.asVar false 1 e21 fun e22 => (U.bin .neq e19 e22).bind fun t23 => U.asBool t23
 (some (.bool false))
 (U.asAgg x1 fun us24 => if 3 = sizes (us24.take 3) then (us24[3]?).bind fun e25 => U.asVar false 1 e25 fun e26 => U.asAgg x2 fun us27 => if 3 = sizes (us27.take 3) then (us27[3]?).bind fun e28 => U.asVar false 1 e28 fun e29 => (U.bin .neq e26 e29).bind fun t30 => U.asBool t30
 (some (.bool false))
 (U.asAgg x1 fun us31 => if 4 = sizes (us31.take 4) then (us31[4]?).bind fun e32 => U.asVar false 1 e32 fun e33 => U.asAgg x2 fun us34 => if 4 = sizes (us34.take 4) then (us34[4]?).bind fun e35 => U.asVar false 1 e35 fun e36 => (U.bin .neq e33 e36).bind fun t37 => U.asBool t37
 (some (.bool false))
 (some (.bool true)) else none else none) else none else none) else none else none) else none else none) else none else none := (h.is _ rfl).trans (laws_eqVersion_eq E a0 a1)

end Go.Proofs.Ytfdcdbkblkehcaa.Am
namespace Go.Proofs.Ytfdcdbkblkehcaa.Am
open Go
set_option linter.unusedVariables false
set_option maxRecDepth 100000

/- loop.example/g01924/laws.eqVersionS -/
def laws_eqVersionS_b0 : AC :=
 (.seq (.seq (.region 0 [⟨some 11, .mv (.t 5), none⟩,
  ⟨some 12, .mv (.t 0), none⟩,
  ⟨some 13, .len false (.t 12), none⟩,
  ⟨some 14, .bin .lss (.t 11) (.t 13), none⟩])
 (.cond (.t 14) .skip (.exit 0)))
 (.seq (.block 1 (.seq (.region 10 [⟨some 17, .mv (.t 0), none⟩,
  ⟨some 18, .mv (.t 5), none⟩,
  ⟨some 19, .iaddr 5 (.t 17) (.t 18), none⟩,
  ⟨some 20, .load true 5 (.t 19), none⟩,
  ⟨some 21, .mv (.t 1), none⟩,
  ⟨some 22, .mv (.t 5), none⟩,
  ⟨some 23, .iaddr 5 (.t 21) (.t 22), none⟩,
  ⟨some 24, .load true 5 (.t 23), none⟩,
  ⟨some 25, .call false 120 [(.t 20), (.t 24)], none⟩,
  ⟨some 26, .un .not (.t 25), none⟩])
 (.cond (.t 26) (.seq (.region 0 [⟨some 4, .mv (.c (.bool false)), none⟩])
 .ret) .skip)))
 (.region 0 [⟨some 15, .mv (.t 5), none⟩,
  ⟨some 16, .bin .add (.t 15) (.c (.int .i64 1)), none⟩,
  ⟨some 5, .mv (.t 16), none⟩])))
def laws_eqVersionS_r0 : AC :=
 (.seq (.region 0 [⟨some 4, .mv (.c (.bool true)), none⟩])
 .ret)
def laws_eqVersionS_ac : AC :=
 (.seq (.region 0 [⟨some 4, .mv (.c (.bool false)), none⟩])
 (.seq (.seq (.region 0 [⟨some 6, .mv (.t 0), none⟩,
  ⟨some 7, .len false (.t 6), none⟩,
  ⟨some 8, .mv (.t 1), none⟩,
  ⟨some 9, .len false (.t 8), none⟩,
  ⟨some 10, .bin .neq (.t 7) (.t 9), none⟩])
 (.cond (.t 10) (.seq (.region 0 [⟨some 4, .mv (.c (.bool false)), none⟩])
 .ret) .skip))
 (.seq (.seq (.region 0 [⟨some 5, .mv (.c (.int .i64 0)), none⟩])
 (.block 0 (.loop ⟨[0, 1, 5], [], []⟩ laws_eqVersionS_b0)))
 laws_eqVersionS_r0)))
noncomputable def laws_eqVersionS_l0 (E : Env) (x0 : U) (x1 : U) (x5 : U) : Option U := loopK (roundOf E ⟨[0, 1, 5], [], []⟩ laws_eqVersionS_b0 (blockK 0 (seqK (fun s => exec E laws_eqVersionS_r0 s (finish [(4, none)])) (finish [(4, none)])))) ([.val x0, .val x1, .val x5], [])
theorem laws_eqVersionS_eq (E : Env) (a0 : U) (a1 : U) : run E laws_eqVersionS_ac [(4, none)] [a0, a1] =
 (U.lenOf false a0).bind fun n1 => (U.lenOf false a1).bind fun n2 => (U.bin .neq (.int .i64 (n1 : Int)) (.int .i64 (n2 : Int))).bind fun t3 => U.asBool t3
 (some (.bool false))
 (laws_eqVersionS_l0 E a0 a1 (.int .i64 0)) := by kernel_rfl
theorem laws_eqVersionS_l0_eq (E : Env) (x0 : U) (x1 : U) (x5 : U) : laws_eqVersionS_l0 E x0 x1 x5 =
 (U.lenOf false x0).bind fun n4 => (U.bin .lss x5 (.int .i64 (n4 : Int))).bind fun t5 => U.asBool t5
 (U.asInt x5 fun n6 => U.elemAt 5 x0 n6 fun e7 => U.asVar true 5 e7 fun e8 => U.asInt x5 fun n9 => U.elemAt 5 x1 n9 fun e10 => U.asVar true 5 e10 fun e11 => (E 120 [e8, e11]).bind fun t12 => (U.un .not t12).bind fun t13 => U.asBool t13
 (some (.bool false))
 ((U.bin .add x5 (.int .i64 1)).bind fun t14 => laws_eqVersionS_l0 E x0 x1 t14))
 (some (.bool true)) :=
 (loop_eq E _ _ _ _).trans (by kernel_rfl)

/-- In the environment E: this function and those that it calls. -/
structure G_laws_eqVersionS (E : Env) : Prop where
  is : Is E 119 2 laws_eqVersionS_ac [(4, none)]
  c_laws_eqVersion : G_laws_eqVersion E
theorem laws_eqVersionS_E {E : Env} (h : G_laws_eqVersionS E) (a0 a1 : U) : E 119 [a0, a1] =
 (U.lenOf false a0).bind fun n1 => (U.lenOf false a1).bind fun n2 => (U.bin .neq (.int .i64 (n1 : Int)) (.int .i64 (n2 : Int))).bind fun t3 => U.asBool t3
 (some (.bool false))
 (laws_eqVersionS_l0 E a0 a1 (.int .i64 0)) := (h.is _ rfl).trans (laws_eqVersionS_eq E a0 a1)

end Go.Proofs.Ytfdcdbkblkehcaa.Am
namespace Go.Proofs.Ytfdcdbkblkehcaa.Am
open Go
set_option linter.unusedVariables false
set_option maxRecDepth 100000

/- loop.example/g01924/laws.eqVersionSS -/
def laws_eqVersionSS_b0 : AC :=
 (.seq (.seq (.region 0 [⟨some 11, .mv (.t 5), none⟩,
  ⟨some 12, .mv (.t 0), none⟩,
  ⟨some 13, .len false (.t 12), none⟩,
  ⟨some 14, .bin .lss (.t 11) (.t 13), none⟩])
 (.cond (.t 14) .skip (.exit 0)))
 (.seq (.block 1 (.seq (.region 10 [⟨some 17, .mv (.t 0), none⟩,
  ⟨some 18, .mv (.t 5), none⟩,
  ⟨some 19, .iaddr 1 (.t 17) (.t 18), none⟩,
  ⟨some 20, .load false 1 (.t 19), none⟩,
  ⟨some 21, .mv (.t 1), none⟩,
  ⟨some 22, .mv (.t 5), none⟩,
  ⟨some 23, .iaddr 1 (.t 21) (.t 22), none⟩,
  ⟨some 24, .load false 1 (.t 23), none⟩,
  ⟨some 25, .call false 119 [(.t 20), (.t 24)], none⟩,
  ⟨some 26, .un .not (.t 25), none⟩])
 (.cond (.t 26) (.seq (.region 0 [⟨some 4, .mv (.c (.bool false)), none⟩])
 .ret) .skip)))
 (.region 0 [⟨some 15, .mv (.t 5), none⟩,
  ⟨some 16, .bin .add (.t 15) (.c (.int .i64 1)), none⟩,
  ⟨some 5, .mv (.t 16), none⟩])))
def laws_eqVersionSS_r0 : AC :=
 (.seq (.region 0 [⟨some 4, .mv (.c (.bool true)), none⟩])
 .ret)
def laws_eqVersionSS_ac : AC :=
 (.seq (.region 0 [⟨some 4, .mv (.c (.bool false)), none⟩])
 (.seq (.seq (.region 0 [⟨some 6, .mv (.t 0), none⟩,
  ⟨some 7, .len false (.t 6), none⟩,
  ⟨some 8, .mv (.t 1), none⟩,
  ⟨some 9, .len false (.t 8), none⟩,
  ⟨some 10, .bin .neq (.t 7) (.t 9), none⟩])
 (.cond (.t 10) (.seq (.region 0 [⟨some 4, .mv (.c (.bool false)), none⟩])
 .ret) .skip))
 (.seq (.seq (.region 0 [⟨some 5, .mv (.c (.int .i64 0)), none⟩])
 (.block 0 (.loop ⟨[0, 1, 5], [], []⟩ laws_eqVersionSS_b0)))
 laws_eqVersionSS_r0)))
noncomputable def laws_eqVersionSS_l0 (E : Env) (x0 : U) (x1 : U) (x5 : U) : Option U := loopK (roundOf E ⟨[0, 1, 5], [], []⟩ laws_eqVersionSS_b0 (blockK 0 (seqK (fun s => exec E laws_eqVersionSS_r0 s (finish [(4, none)])) (finish [(4, none)])))) ([.val x0, .val x1, .val x5], [])
theorem laws_eqVersionSS_eq (E : Env) (a0 : U) (a1 : U) : run E laws_eqVersionSS_ac [(4, none)] [a0, a1] =
 (U.lenOf false a0).bind fun n1 => (U.lenOf false a1).bind fun n2 => (U.bin .neq (.int .i64 (n1 : Int)) (.int .i64 (n2 : Int))).bind fun t3 => U.asBool t3
 (some (.bool false))
 (laws_eqVersionSS_l0 E a0 a1 (.int .i64 0)) := by kernel_rfl
theorem laws_eqVersionSS_l0_eq (E : Env) (x0 : U) (x1 : U) (x5 : U) : laws_eqVersionSS_l0 E x0 x1 x5 =
 (U.lenOf false x0).bind fun n4 => (U.bin .lss x5 (.int .i64 (n4 : Int))).bind fun t5 => U.asBool t5
 (U.asInt x5 fun n6 => U.elemAt 1 x0 n6 fun e7 => U.asVar false 1 e7 fun e8 => U.asInt x5 fun n9 => U.elemAt 1 x1 n9 fun e10 => U.asVar false 1 e10 fun e11 => (E 119 [e8, e11]).bind fun t12 => (U.un .not t12).bind fun t13 => U.asBool t13
 (some (.bool false))
 ((U.bin .add x5 (.int .i64 1)).bind fun t14 => laws_eqVersionSS_l0 E x0 x1 t14))
 (some (.bool true)) :=
 (loop_eq E _ _ _ _).trans (by kernel_rfl)

/-- In the environment E: this function and those that it calls. -/
structure G_laws_eqVersionSS (E : Env) : Prop where
  is : Is E 118 2 laws_eqVersionSS_ac [(4, none)]
  c_laws_eqVersionS : G_laws_eqVersionS E
theorem laws_eqVersionSS_E {E : Env} (h : G_laws_eqVersionSS E) (a0 a1 : U) : E 118 [a0, a1] =
 (U.lenOf false a0).bind fun n1 => (U.lenOf false a1).bind fun n2 => (U.bin .neq (.int .i64 (n1 : Int)) (.int .i64 (n2 : Int))).bind fun t3 => U.asBool t3
 (some (.bool false))
 (laws_eqVersionSS_l0 E a0 a1 (.int .i64 0)) := (h.is _ rfl).trans (laws_eqVersionSS_eq E a0 a1)

end Go.Proofs.Ytfdcdbkblkehcaa.Am
namespace Go.Proofs.Ytfdcdbkblkehcaa.Am
open Go
set_option linter.unusedVariables false
set_option maxRecDepth 100000

/- loop.example/g01924/laws.eqStore -/
def laws_eqStore_ac : AC :=
 (.seq (.region 0 [⟨some 2, .box false (.t 0), none⟩,
  ⟨some 3, .box false (.t 1), none⟩,
  ⟨some 4, .mv (.c (.bool false)), none⟩])
 (.seq (.seq (.region 0 [⟨some 5, .faddr 0 0 (.t 2), none⟩,
  ⟨some 6, .load false 1 (.t 5), none⟩,
  ⟨some 7, .faddr 0 0 (.t 3), none⟩,
  ⟨some 8, .load false 1 (.t 7), none⟩,
  ⟨some 9, .call false 118 [(.t 6), (.t 8)], none⟩,
  ⟨some 10, .un .not (.t 9), none⟩])
 (.cond (.t 10) (.seq (.region 0 [⟨some 4, .mv (.c (.bool false)), none⟩])
 .ret) .skip))
 (.seq (.region 0 [⟨some 4, .mv (.c (.bool true)), none⟩])
 .ret)))

theorem laws_eqStore_eq (E : Env) (a0 : U) (a1 : U) : run E laws_eqStore_ac [(4, none)] [a0, a1] =
 U.noTup a0 fun x1 => U.noTup a1 fun x2 => U.asAgg x1 fun us3 => if 0 = sizes (us3.take 0) then (us3[0]?).bind fun e4 => U.asVar false 1 e4 fun e5 => U.asAgg x2 fun us6 => if 0 = sizes (us6.take 0) then (us6[0]?).bind fun e7 => U.asVar false 1 e7 fun e8 => (E 118 [e5, e8]).bind fun t9 => (U.un .not t9).bind fun t10 => U.asBool t10
 (some (.bool false))
 (some (.bool true)) else none else none := by kernel_rfl

/-- In the environment E: this function and those that it calls. -/
structure G_laws_eqStore (E : Env) : Prop where
  is : Is E 97 2 laws_eqStore_ac [(4, none)]
  c_laws_eqVersionSS : G_laws_eqVersionSS E
theorem laws_eqStore_E {E : Env} (h : G_laws_eqStore E) (a0 a1 : U) : E 97 [a0, a1] =
 U.noTup a0 fun x1 => U.noTup a1 fun x2 => U.asAgg x1 fun us3 => if 0 = sizes (us3.take 0) then (us3[0]?).bind fun e4 => U.asVar false 1 e4 fun e5 => U.asAgg x2 fun us6 => if 0 = sizes (us6.take 0) then (us6[0]?).bind fun e7 => U.asVar false 1 e7 fun e8 => (E 118 [e5, e8]).bind fun t9 => (U.un .not t9).bind fun t10 => U.asBool t10
 (some (.bool false))
 (some (.bool true)) else none else none := (h.is _ rfl).trans (laws_eqStore_eq E a0 a1)

end Go.Proofs.Ytfdcdbkblkehcaa.Am
namespace Go.Proofs.Ytfdcdbkblkehcaa.Am
open Go
set_option linter.unusedVariables false
set_option maxRecDepth 100000

/- loop.example/g01924/laws.eqReadMark -/
def laws_eqReadMark_ac : AC :=
 (.seq (.region 0 [⟨some 2, .box false (.t 0), none⟩,
  ⟨some 3, .box false (.t 1), none⟩,
  ⟨some 4, .mv (.c (.bool false)), none⟩])
 (.seq (.seq (.region 0 [⟨some 5, .faddr 0 0 (.t 2), none⟩,
  ⟨some 6, .load false 1 (.t 5), none⟩,
  ⟨some 7, .faddr 0 0 (.t 3), none⟩,
  ⟨some 8, .load false 1 (.t 7), none⟩,
  ⟨some 9, .bin .neq (.t 6) (.t 8), none⟩])
 (.cond (.t 9) (.seq (.region 0 [⟨some 4, .mv (.c (.bool false)), none⟩])
 .ret) .skip))
 (.seq (.seq (.region 0 [⟨some 10, .faddr 1 1 (.t 2), none⟩,
  ⟨some 11, .load false 1 (.t 10), none⟩,
  ⟨some 12, .faddr 1 1 (.t 3), none⟩,
  ⟨some 13, .load false 1 (.t 12), none⟩,
  ⟨some 14, .bin .neq (.t 11) (.t 13), none⟩])
 (.cond (.t 14) (.seq (.region 0 [⟨some 4, .mv (.c (.bool false)), none⟩])
 .ret) .skip))
 (.seq (.region 0 [⟨some 4, .mv (.c (.bool true)), none⟩])
 .ret))))

theorem laws_eqReadMark_eq (E : Env) (a0 : U) (a1 : U) : run E laws_eqReadMark_ac [(4, none)] [a0, a1] =
 U.noTup a0 fun x1 => U.noTup a1 fun x2 => U.asAgg x1 fun us3 => if 0 = sizes (us3.take 0) then (us3[0]?).bind fun e4 => U.asVar false 1 e4 fun e5 => U.asAgg x2 fun us6 => if 0 = sizes (us6.take 0) then (us6[0]?).bind fun e7 => U.asVar false 1 e7 fun e8 => (U.bin .neq e5 e8).bind fun t9 => U.asBool t9
 (some (.bool false))
 (U.asAgg x1 fun us10 => if 1 = sizes (us10.take 1) then (us10[1]?).bind fun e11 => U.asVar false 1 e11 fun e12 => U.asAgg x2 fun us13 => if 1 = sizes (us13.take 1) then (us13[1]?).bind fun e14 => U.asVar false 1 e14 fun e15 => (U.bin .neq e12 e15).bind fun t16 => U.asBool t16
 (some (.bool false))
 (some (.bool true)) else none else none) else none else none := by kernel_rfl

/-- In the environment E: this function and those that it calls. -/
structure G_laws_eqReadMark (E : Env) : Prop where
  is : Is E 35 2 laws_eqReadMark_ac [(4, none)]
theorem laws_eqReadMark_E {E : Env} (h : G_laws_eqReadMark E) (a0 a1 : U) : E 35 [a0, a1] =
 U.noTup a0 fun x1 => U.noTup a1 fun x2 => U.asAgg x1 fun us3 => if 0 = sizes (us3.take 0) then (us3[0]?).bind fun e4 => U.asVar false 1 e4 fun e5 => U.asAgg x2 fun us6 => if 0 = sizes (us6.take 0) then (us6[0]?).bind fun e7 => U.asVar false 1 e7 fun e8 => (U.bin .neq e5 e8).bind fun t9 => U.asBool t9
 (some (.bool false))
 (U.asAgg x1 fun us10 => if 1 = sizes (us10.take 1) then (us10[1]?).bind fun e11 => U.asVar false 1 e11 fun e12 => U.asAgg x2 fun us13 => if 1 = sizes (us13.take 1) then (us13[1]?).bind fun e14 => U.asVar false 1 e14 fun e15 => (U.bin .neq e12 e15).bind fun t16 => U.asBool t16
 (some (.bool false))
 (some (.bool true)) else none else none) else none else none := (h.is _ rfl).trans (laws_eqReadMark_eq E a0 a1)

end Go.Proofs.Ytfdcdbkblkehcaa.Am
namespace Go.Proofs.Ytfdcdbkblkehcaa.Am
open Go
set_option linter.unusedVariables false
set_option maxRecDepth 100000

/- loop.example/g01924/laws.eqReadMarkS -/
def laws_eqReadMarkS_b0 : AC :=
 (.seq (.seq (.region 0 [⟨some 11, .mv (.t 5), none⟩,
  ⟨some 12, .mv (.t 0), none⟩,
  ⟨some 13, .len false (.t 12), none⟩,
  ⟨some 14, .bin .lss (.t 11) (.t 13), none⟩])
 (.cond (.t 14) .skip (.exit 0)))
 (.seq (.block 1 (.seq (.region 10 [⟨some 17, .mv (.t 0), none⟩,
  ⟨some 18, .mv (.t 5), none⟩,
  ⟨some 19, .iaddr 2 (.t 17) (.t 18), none⟩,
  ⟨some 20, .load true 2 (.t 19), none⟩,
  ⟨some 21, .mv (.t 1), none⟩,
  ⟨some 22, .mv (.t 5), none⟩,
  ⟨some 23, .iaddr 2 (.t 21) (.t 22), none⟩,
  ⟨some 24, .load true 2 (.t 23), none⟩,
  ⟨some 25, .call false 35 [(.t 20), (.t 24)], none⟩,
  ⟨some 26, .un .not (.t 25), none⟩])
 (.cond (.t 26) (.seq (.region 0 [⟨some 4, .mv (.c (.bool false)), none⟩])
 .ret) .skip)))
 (.region 0 [⟨some 15, .mv (.t 5), none⟩,
  ⟨some 16, .bin .add (.t 15) (.c (.int .i64 1)), none⟩,
  ⟨some 5, .mv (.t 16), none⟩])))
def laws_eqReadMarkS_r0 : AC :=
 (.seq (.region 0 [⟨some 4, .mv (.c (.bool true)), none⟩])
 .ret)
def laws_eqReadMarkS_ac : AC :=
 (.seq (.region 0 [⟨some 4, .mv (.c (.bool false)), none⟩])
 (.seq (.seq (.region 0 [⟨some 6, .mv (.t 0), none⟩,
  ⟨some 7, .len false (.t 6), none⟩,
  ⟨some 8, .mv (.t 1), none⟩,
  ⟨some 9, .len false (.t 8), none⟩,
  ⟨some 10, .bin .neq (.t 7) (.t 9), none⟩])
 (.cond (.t 10) (.seq (.region 0 [⟨some 4, .mv (.c (.bool false)), none⟩])
 .ret) .skip))
 (.seq (.seq (.region 0 [⟨some 5, .mv (.c (.int .i64 0)), none⟩])
 (.block 0 (.loop ⟨[0, 1, 5], [], []⟩ laws_eqReadMarkS_b0)))
 laws_eqReadMarkS_r0)))
noncomputable def laws_eqReadMarkS_l0 (E : Env) (x0 : U) (x1 : U) (x5 : U) : Option U := loopK (roundOf E ⟨[0, 1, 5], [], []⟩ laws_eqReadMarkS_b0 (blockK 0 (seqK (fun s => exec E laws_eqReadMarkS_r0 s (finish [(4, none)])) (finish [(4, none)])))) ([.val x0, .val x1, .val x5], [])
theorem laws_eqReadMarkS_eq (E : Env) (a0 : U) (a1 : U) : run E laws_eqReadMarkS_ac [(4, none)] [a0, a1] =
 (U.lenOf false a0).bind fun n1 => (U.lenOf false a1).bind fun n2 => (U.bin .neq (.int .i64 (n1 : Int)) (.int .i64 (n2 : Int))).bind fun t3 => U.asBool t3
 (some (.bool false))
 (laws_eqReadMarkS_l0 E a0 a1 (.int .i64 0)) := by kernel_rfl
theorem laws_eqReadMarkS_l0_eq (E : Env) (x0 : U) (x1 : U) (x5 : U) : laws_eqReadMarkS_l0 E x0 x1 x5 =
 (U.lenOf false x0).bind fun n4 => (U.bin .lss x5 (.int .i64 (n4 : Int))).bind fun t5 => U.asBool t5
 (U.asInt x5 fun n6 => U.elemAt 2 x0 n6 fun e7 => U.asVar true 2 e7 fun e8 => U.asInt x5 fun n9 => U.elemAt 2 x1 n9 fun e10 => U.asVar true 2 e10 fun e11 => (E 35 [e8, e11]).bind fun t12 => (U.un .not t12).bind fun t13 => U.asBool t13
 (some (.bool false))
 ((U.bin .add x5 (.int .i64 1)).bind fun t14 => laws_eqReadMarkS_l0 E x0 x1 t14))
 (some (.bool true)) :=
 (loop_eq E _ _ _ _).trans (by kernel_rfl)

/-- In the environment E: this function and those that it calls. -/
structure G_laws_eqReadMarkS (E : Env) : Prop where
  is : Is E 34 2 laws_eqReadMarkS_ac [(4, none)]
  c_laws_eqReadMark : G_laws_eqReadMark E
theorem laws_eqReadMarkS_E {E : Env} (h : G_laws_eqReadMarkS E) (a0 a1 : U) : E 34 [a0, a1] =
 (U.lenOf false a0).bind fun n1 => (U.lenOf false a1).bind fun n2 => (U.bin .neq (.int .i64 (n1 : Int)) (.int .i64 (n2 : Int))).bind fun t3 => U.asBool t3
 (some (.bool false))
 (laws_eqReadMarkS_l0 E a0 a1 (.int .i64 0)) := (h.is _ rfl).trans (laws_eqReadMarkS_eq E a0 a1)

end Go.Proofs.Ytfdcdbkblkehcaa.Am
namespace Go.Proofs.Ytfdcdbkblkehcaa.Am
open Go
set_option linter.unusedVariables false
set_option maxRecDepth 100000

/- loop.example/g01924/laws.eqWrite -/
def laws_eqWrite_ac : AC :=
 (.seq (.region 0 [⟨some 2, .box false (.t 0), none⟩,
  ⟨some 3, .box false (.t 1), none⟩,
  ⟨some 4, .mv (.c (.bool false)), none⟩])
 (.seq (.seq (.region 0 [⟨some 5, .faddr 0 0 (.t 2), none⟩,
  ⟨some 6, .load false 1 (.t 5), none⟩,
  ⟨some 7, .faddr 0 0 (.t 3), none⟩,
  ⟨some 8, .load false 1 (.t 7), none⟩,
  ⟨some 9, .bin .neq (.t 6) (.t 8), none⟩])
 (.cond (.t 9) (.seq (.region 0 [⟨some 4, .mv (.c (.bool false)), none⟩])
 .ret) .skip))
 (.seq (.seq (.region 0 [⟨some 10, .faddr 1 1 (.t 2), none⟩,
  ⟨some 11, .load false 1 (.t 10), none⟩,
  ⟨some 12, .faddr 1 1 (.t 3), none⟩,
  ⟨some 13, .load false 1 (.t 12), none⟩,
  ⟨some 14, .bin .neq (.t 11) (.t 13), none⟩])
 (.cond (.t 14) (.seq (.region 0 [⟨some 4, .mv (.c (.bool false)), none⟩])
 .ret) .skip))
 (.seq (.region 0 [⟨some 4, .mv (.c (.bool true)), none⟩])
 .ret))))

theorem laws_eqWrite_eq (E : Env) (a0 : U) (a1 : U) : run E laws_eqWrite_ac [(4, none)] [a0, a1] =
 U.noTup a0 fun x1 => U.noTup a1 fun x2 => U.asAgg x1 fun us3 => if 0 = sizes (us3.take 0) then (us3[0]?).bind fun e4 => U.asVar false 1 e4 fun e5 => U.asAgg x2 fun us6 => if 0 = sizes (us6.take 0) then (us6[0]?).bind fun e7 => U.asVar false 1 e7 fun e8 => (U.bin .neq e5 e8).bind fun t9 => U.asBool t9
 (some (.bool false))
 (U.asAgg x1 fun us10 => if 1 = sizes (us10.take 1) then (us10[1]?).bind fun e11 => U.asVar false 1 e11 fun e12 => U.asAgg x2 fun us13 => if 1 = sizes (us13.take 1) then (us13[1]?).bind fun e14 => U.asVar false 1 e14 fun e15 => (U.bin .neq e12 e15).bind fun t16 => U.asBool t16
 (some (.bool false))
 (some (.bool true)) else none else none) else none else none := by kernel_rfl

/-- In the environment E: this function and those that it calls. -/
structure G_laws_eqWrite (E : Env) : Prop where
  is : Is E 36 2 laws_eqWrite_ac [(4, none)]
theorem laws_eqWrite_E {E : Env} (h : G_laws_eqWrite E) (a0 a1 : U) : E 36 [a0, a1] =
 U.noTup a0 fun x1 => U.noTup a1 fun x2 => U.asAgg x1 fun us3 => if 0 = sizes (us3.take 0) then (us3[0]?).bind fun e4 => U.asVar false 1 e4 fun e5 => U.asAgg x2 fun us6 => if 0 = sizes (us6.take 0) then (us6[0]?).bind fun e7 => U.asVar false 1 e7 fun e8 => (U.bin .neq e5 e8).bind fun t9 => U.asBool t9
 (some (.bool false))
 (U.asAgg x1 fun us10 => if 1 = sizes (us10.take 1) then (us10[1]?).bind fun e11 => U.asVar false 1 e11 fun e12 => U.asAgg x2 fun us13 => if 1 = sizes (us13.take 1) then (us13[1]?).bind fun e14 => U.asVar false 1 e14 fun e15 => (U.bin .neq e12 e15).bind fun t16 => U.asBool t16
 (some (.bool false))
 (some (.bool true)) else none else none) else none else none := (h.is _ rfl).trans (laws_eqWrite_eq E a0 a1)

end Go.Proofs.Ytfdcdbkblkehcaa.Am
namespace Go.Proofs.Ytfdcdbkblkehcaa.Am
open Go
set_option linter.unusedVariables false
set_option maxRecDepth 100000

/- loop.example/g01924/laws.eqWriteS -/
def laws_eqWriteS_b0 : AC :=
 (.seq (.seq (.region 0 [⟨some 11, .mv (.t 5), none⟩,
  ⟨some 12, .mv (.t 0), none⟩,
  ⟨some 13, .len false (.t 12), none⟩,
  ⟨some 14, .bin .lss (.t 11) (.t 13), none⟩])
 (.cond (.t 14) .skip (.exit 0)))
 (.seq (.block 1 (.seq (.region 10 [⟨some 17, .mv (.t 0), none⟩,
  ⟨some 18, .mv (.t 5), none⟩,
  ⟨some 19, .iaddr 2 (.t 17) (.t 18), none⟩,
  ⟨some 20, .load true 2 (.t 19), none⟩,
  ⟨some 21, .mv (.t 1), none⟩,
  ⟨some 22, .mv (.t 5), none⟩,
  ⟨some 23, .iaddr 2 (.t 21) (.t 22), none⟩,
  ⟨some 24, .load true 2 (.t 23), none⟩,
  ⟨some 25, .call false 36 [(.t 20), (.t 24)], none⟩,
  ⟨some 26, .un .not (.t 25), none⟩])
 (.cond (.t 26) (.seq (.region 0 [⟨some 4, .mv (.c (.bool false)), none⟩])
 .ret) .skip)))
 (.region 0 [⟨some 15, .mv (.t 5), none⟩,
  ⟨some 16, .bin .add (.t 15) (.c (.int .i64 1)), none⟩,
  ⟨some 5, .mv (.t 16), none⟩])))
def laws_eqWriteS_r0 : AC :=
 (.seq (.region 0 [⟨some 4, .mv (.c (.bool true)), none⟩])
 .ret)
def laws_eqWriteS_ac : AC :=
 (.seq (.region 0 [⟨some 4, .mv (.c (.bool false)), none⟩])
 (.seq (.seq (.region 0 [⟨some 6, .mv (.t 0), none⟩,
  ⟨some 7, .len false (.t 6), none⟩,
  ⟨some 8, .mv (.t 1), none⟩,
  ⟨some 9, .len false (.t 8), none⟩,
  ⟨some 10, .bin .neq (.t 7) (.t 9), none⟩])
 (.cond (.t 10) (.seq (.region 0 [⟨some 4, .mv (.c (.bool false)), none⟩])
 .ret) .skip))
 (.seq (.seq (.region 0 [⟨some 5, .mv (.c (.int .i64 0)), none⟩])
 (.block 0 (.loop ⟨[0, 1, 5], [], []⟩ laws_eqWriteS_b0)))
 laws_eqWriteS_r0)))
noncomputable def laws_eqWriteS_l0 (E : Env) (x0 : U) (x1 : U) (x5 : U) : Option U := loopK (roundOf E ⟨[0, 1, 5], [], []⟩ laws_eqWriteS_b0 (blockK 0 (seqK (fun s => exec E laws_eqWriteS_r0 s (finish [(4, none)])) (finish [(4, none)])))) ([.val x0, .val x1, .val x5], [])
theorem laws_eqWriteS_eq (E : Env) (a0 : U) (a1 : U) : run E laws_eqWriteS_ac [(4, none)] [a0, a1] =
 (U.lenOf false a0).bind fun n1 => (U.lenOf false a1).bind fun n2 => (U.bin .neq (.int .i64 (n1 : Int)) (.int .i64 (n2 : Int))).bind fun t3 => U.asBool t3
 (some (.bool false))
 (laws_eqWriteS_l0 E a0 a1 (.int .i64 0)) := by kernel_rfl
theorem laws_eqWriteS_l0_eq (E : Env) (x0 : U) (x1 : U) (x5 : U) : laws_eqWriteS_l0 E x0 x1 x5 =
 (U.lenOf false x0).bind fun n4 => (U.bin .lss x5 (.int .i64 (n4 : Int))).bind fun t5 => U.asBool t5
 (U.asInt x5 fun n6 => U.elemAt 2 x0 n6 fun e7 => U.asVar true 2 e7 fun e8 => U.asInt x5 fun n9 => U.elemAt 2 x1 n9 fun e10 => U.asVar true 2 e10 fun e11 => (E 36 [e8, e11]).bind fun t12 => (U.un .not t12).bind fun t13 => U.asBool t13
 (some (.bool false))
 ((U.bin .add x5 (.int .i64 1)).bind fun t14 => laws_eqWriteS_l0 E x0 x1 t14))
 (some (.bool true)) :=
 (loop_eq E _ _ _ _).trans (by kernel_rfl)

/-- In the environment E: this function and those that it calls. -/
structure G_laws_eqWriteS (E : Env) : Prop where
  is : Is E 33 2 laws_eqWriteS_ac [(4, none)]
  c_laws_eqWrite : G_laws_eqWrite E
theorem laws_eqWriteS_E {E : Env} (h : G_laws_eqWriteS E) (a0 a1 : U) : E 33 [a0, a1] =
 (U.lenOf false a0).bind fun n1 => (U.lenOf false a1).bind fun n2 => (U.bin .neq (.int .i64 (n1 : Int)) (.int .i64 (n2 : Int))).bind fun t3 => U.asBool t3
 (some (.bool false))
 (laws_eqWriteS_l0 E a0 a1 (.int .i64 0)) := (h.is _ rfl).trans (laws_eqWriteS_eq E a0 a1)

end Go.Proofs.Ytfdcdbkblkehcaa.Am
namespace Go.Proofs.Ytfdcdbkblkehcaa.Am
open Go
set_option linter.unusedVariables false
set_option maxRecDepth 100000

/- loop.example/g01924/laws.eqTransaction -/
def laws_eqTransaction_ac : AC :=
 (.seq (.region 0 [⟨some 2, .box false (.t 0), none⟩,
  ⟨some 3, .box false (.t 1), none⟩,
  ⟨some 4, .mv (.c (.bool false)), none⟩])
 (.seq (.seq (.region 0 [⟨some 5, .faddr 0 0 (.t 2), none⟩,
  ⟨some 6, .load false 1 (.t 5), none⟩,
  ⟨some 7, .faddr 0 0 (.t 3), none⟩,
  ⟨some 8, .load false 1 (.t 7), none⟩,
  ⟨some 9, .bin .neq (.t 6) (.t 8), none⟩])
 (.cond (.t 9) (.seq (.region 0 [⟨some 4, .mv (.c (.bool false)), none⟩])
 .ret) .skip))
 (.seq (.seq (.region 0 [⟨some 10, .faddr 1 1 (.t 2), none⟩,
  ⟨some 11, .load false 1 (.t 10), none⟩,
  ⟨some 12, .faddr 1 1 (.t 3), none⟩,
  ⟨some 13, .load false 1 (.t 12), none⟩,
  ⟨some 14, .bin .neq (.t 11) (.t 13), none⟩])
 (.cond (.t 14) (.seq (.region 0 [⟨some 4, .mv (.c (.bool false)), none⟩])
 .ret) .skip))
 (.seq (.seq (.region 0 [⟨some 15, .faddr 2 2 (.t 2), none⟩,
  ⟨some 16, .load false 1 (.t 15), none⟩,
  ⟨some 17, .faddr 2 2 (.t 3), none⟩,
  ⟨some 18, .load false 1 (.t 17), none⟩,
  ⟨some 19, .bin .neq (.t 16) (.t 18), none⟩])
 (.cond (.t 19) (.seq (.region 0 [⟨some 4, .mv (.c (.bool false)), none⟩])
 .ret) .skip))
 (.seq (.seq (.region 0 [⟨some 20, .faddr 3 3 (.t 2), none⟩,
  ⟨some 21, .load false 1 (.t 20), none⟩,
  ⟨some 22, .faddr 3 3 (.t 3), none⟩,
  ⟨some 23, .load false 1 (.t 22), none⟩,
  ⟨some 24, .bin .neq (.t 21) (.t 23), none⟩])
 (.cond (.t 24) (.seq (.region 0 [⟨some 4, .mv (.c (.bool false)), none⟩])
 .ret) .skip))
 (.seq (.seq (.region 0 [⟨some 25, .faddr 4 4 (.t 2), none⟩,
  ⟨some 26, .load false 1 (.t 25), none⟩,
  ⟨some 27, .faddr 4 4 (.t 3), none⟩,
  ⟨some 28, .load false 1 (.t 27), none⟩,
  ⟨some 29, .bin .neq (.t 26) (.t 28), none⟩])
 (.cond (.t 29) (.seq (.region 0 [⟨some 4, .mv (.c (.bool false)), none⟩])
 .ret) .skip))
 (.seq (.seq (.region 0 [⟨some 30, .faddr 5 5 (.t 2), none⟩,
  ⟨some 31, .load false 1 (.t 30), none⟩,
  ⟨some 32, .faddr 5 5 (.t 3), none⟩,
  ⟨some 33, .load false 1 (.t 32), none⟩,
  ⟨some 34, .bin .neq (.t 31) (.t 33), none⟩])
 (.cond (.t 34) (.seq (.region 0 [⟨some 4, .mv (.c (.bool false)), none⟩])
 .ret) .skip))
 (.seq (.seq (.region 0 [⟨some 35, .faddr 6 6 (.t 2), none⟩,
  ⟨some 36, .load false 1 (.t 35), none⟩,
  ⟨some 37, .faddr 6 6 (.t 3), none⟩,
  ⟨some 38, .load false 1 (.t 37), none⟩,
  ⟨some 39, .bin .neq (.t 36) (.t 38), none⟩])
 (.cond (.t 39) (.seq (.region 0 [⟨some 4, .mv (.c (.bool false)), none⟩])
 .ret) .skip))
 (.seq (.seq (.region 0 [⟨some 40, .faddr 7 7 (.t 2), none⟩,
  ⟨some 41, .load false 1 (.t 40), none⟩,
  ⟨some 42, .faddr 7 7 (.t 3), none⟩,
  ⟨some 43, .load false 1 (.t 42), none⟩,
  ⟨some 44, .call false 34 [(.t 41), (.t 43)], none⟩,
  ⟨some 45, .un .not (.t 44), none⟩])
 (.cond (.t 45) (.seq (.region 0 [⟨some 4, .mv (.c (.bool false)), none⟩])
 .ret) .skip))
 (.seq (.seq (.region 0 [⟨some 46, .faddr 8 8 (.t 2), none⟩,
  ⟨some 47, .load false 1 (.t 46), none⟩,
  ⟨some 48, .faddr 8 8 (.t 3), none⟩,
  ⟨some 49, .load false 1 (.t 48), none⟩,
  ⟨some 50, .call false 33 [(.t 47), (.t 49)], none⟩,
  ⟨some 51, .un .not (.t 50), none⟩])
 (.cond (.t 51) (.seq (.region 0 [⟨some 4, .mv (.c (.bool false)), none⟩])
 .ret) .skip))
 (.seq (.region 0 [⟨some 4, .mv (.c (.bool true)), none⟩])
 .ret)))))))))))

theorem laws_eqTransaction_eq (E : Env) (a0 : U) (a1 : U) : run E laws_eqTransaction_ac [(4, none)] [a0, a1] =
 U.noTup a0 fun x1 => U.noTup a1 fun x2 => U.asAgg x1 fun us3 => if 0 = sizes (us3.take 0) then (us3[0]?).bind fun e4 => U.asVar false 1 e4 fun e5 => U.asAgg x2 fun us6 => if 0 = sizes (us6.take 0) then (us6[0]?).bind fun e7 => U.asVar false 1 e7 fun e8 => (U.bin .neq e5 e8).bind fun t9 => U.asBool t9
 (some (.bool false))
 (U.asAgg x1 fun us10 => if 1 = sizes (us10.take 1) then (us10[1]?).bind fun e11 => U.asVar false 1 e11 fun e12 => U.asAgg x2 fun us13 => if 1 = sizes (us13.take 1) then (us13[1]?).bind fun e14 => U.asVar false 1 e14 fun e15 => (U.bin .neq e12 e15).bind fun t16 => U.asBool t16
 (some (.bool false))
 (U.asAgg x1 fun us17 => if 2 = sizes (us17.take 2) then (us17[2]?).bind fun e18 => U.asVar false 1 e18 fun e19 => U.asAgg x2 fun us20 => if 2 = sizes (us20.take 2) then (us20[2]?).bind fun e21 => U.asVar false 1 e21 fun e22 => (U.bin .neq e19 e22).bind fun t23 => U.asBool t23
 (some (.bool false))
 (U.asAgg x1 fun us24 => if 3 = sizes (us24.take 3) then (us24[3]?).bind fun e25 => U.asVar false 1 e25 fun e26 => U.asAgg x2 fun us27 => if 3 = sizes (us27.take 3) then (us27[3]?).bind fun e28 => U.asVar false 1 e28 fun e29 => (U.bin .neq e26 e29).bind fun t30 => U.asBool t30
 (some (.bool false))
 (U.asAgg x1 fun us31 => if 4 = sizes (us31.take 4) then (us31[4]?).bind fun e32 => U.asVar false 1 e32 fun e33 => U.asAgg x2 fun us34 => if 4 = sizes (us34.take 4) then (us34[4]?).bind fun e35 => U.asVar false 1 e35 fun e36 => (U.bin .neq e33 e36).bind fun t37 => U.asBool t37
 (some (.bool false))
 (U.asAgg x1 fun us38 => if 5 = sizes (us38.take 5) then (us38[5]?).bind fun e39 => U.asVar false 1 e39 fun e40 => U.asAgg x2 fun us41 => if 5 = sizes (us41.take 5) then (us41[5]?).bind fun e42 => U.asVar false 1 e42 fun e43 => (U.bin .neq e40 e43).bind fun t44 => U.asBool t44
 (some (.bool false))
 (U.asAgg x1 fun us45 => if 6 = sizes (us45.take 6) then (us45[6]?).bind fun e46 => U.asVar false 1 e46 fun e47 => U.asAgg x2 fun us48 => if 6 = sizes (us48.take 6) then (us48[6]?).bind fun e49 => U.asVar false 1 e49 fun e50 => (U.bin .neq e47 e50).bind fun t51 => U.asBool t51
 (some (.bool false))
 (U.asAgg x1 fun us52 => if 7 = sizes (us52.take 7) then (us52[7]?).bind fun e53 => U.asVar false 1 e53 fun e54 => U.asAgg x2 fun us55 => if 7 = sizes (us55.take 7) then (us55[7]?).bind fun e56 => U.asVar false 1 e56 fun e57 => (E 34 [e54, e57]).bind fun t58 => (U.un .not t58).bind fun t59 => U.asBool t59
 (some (.bool false))
 (U.asAgg x1 fun us60 => if 8 = sizes (us60.take 8) then (us60[8]?).bind fun e61 => U.asVar false 1 e61 fun e62 => U.asAgg x2 fun us63 => if 8 = sizes (us63.take 8) then (us63[8]?).bind fun e64 => U.asVar false 1 e64 fun e65 => (E 33 [e62, e65]).bind fun t66 => (U.un .not t66).bind fun t67 => U.asBool t67
 (some (.bool false))
 (some (.bool true)) else none else none) else none else none) else none else none) else none else none) else none else none) else none else none) else none else none) else none else none) else none else none := by kernel_rfl

/-- In the environment E: this function and those that it calls. -/
structure G_laws_eqTransaction (E : Env) : Prop where
  is : Is E 177 2 laws_eqTransaction_ac [(4, none)]
  c_laws_eqReadMarkS : G_laws_eqReadMarkS E
  c_laws_eqWriteS : G_laws_eqWriteS E
theorem laws_eqTransaction_E {E : Env} (h : G_laws_eqTransaction E) (a0 a1 : U) : E 177 [a0, a1] =
 U.noTup a0 fun x1 => U.noTup a1 fun x2 => U.asAgg x1 fun us3 => if 0 = sizes (us3.take 0) then (us3[0]?).bind fun e4 => U.asVar false 1 e4 fun e5 => U.asAgg x2 fun us6 => if 0 = sizes (us6.take 0) then (us6[0]?).bind fun e7 => U.asVar false 1 e7 fun e8 => (U.bin .neq e5 e8).bind fun t9 => U.asBool t9
 (some (.bool false))
 (U.asAgg x1 fun us10 => if 1 = sizes (us10.take 1) then (us10[1]?).bind fun e11 => U.asVar false 1 e11 fun e12 => U.asAgg x2 fun us13 => if 1 = sizes (us13.take 1) then (us13[1]?).bind fun e14 => U.asVar false 1 e14 fun e15 => (U.bin .neq e12 e15).bind fun t16 => U.asBool t16
 (some (.bool false))
 (U.asAgg x1 fun us17 => if 2 = sizes (us17.take 2) then (us17[2]?).bind fun e18 => U.asVar false 1 e18 fun e19 => U.asAgg x2 fun us20 => if 2 = sizes (us20.take 2) then (us20[2]?).bind fun e21 => U.asVar false 1 e21 fun e22 => (U.bin .neq e19 e22).bind fun t23 => U.asBool t23
 (some (.bool false))
 (U.asAgg x1 fun us24 => if 3 = sizes (us24.take 3) then (us24[3]?).bind fun e25 => U.asVar false 1 e25 fun e26 => U.asAgg x2 fun us27 => if 3 = sizes (us27.take 3) then (us27[3]?).bind fun e28 => U.asVar false 1 e28 fun e29 => (U.bin .neq e26 e29).bind fun t30 => U.asBool t30
 (some (.bool false))
 (U.asAgg x1 fun us31 => if 4 = sizes (us31.take 4) then (us31[4]?).bind fun e32 => U.asVar false 1 e32 fun e33 => U.asAgg x2 fun us34 => if 4 = sizes (us34.take 4) then (us34[4]?).bind fun e35 => U.asVar false 1 e35 fun e36 => (U.bin .neq e33 e36).bind fun t37 => U.asBool t37
 (some (.bool false))
 (U.asAgg x1 fun us38 => if 5 = sizes (us38.take 5) then (us38[5]?).bind fun e39 => U.asVar false 1 e39 fun e40 => U.asAgg x2 fun us41 => if 5 = sizes (us41.take 5) then (us41[5]?).bind fun e42 => U.asVar false 1 e42 fun e43 => (U.bin .neq e40 e43).bind fun t44 => U.asBool t44
 (some (.bool false))
 (U.asAgg x1 fun us45 => if 6 = sizes (us45.take 6) then (us45[6]?).bind fun e46 => U.asVar false 1 e46 fun e47 => U.asAgg x2 fun us48 => if 6 = sizes (us48.take 6) then (us48[6]?).bind fun e49 => U.asVar false 1 e49 fun e50 => (U.bin .neq e47 e50).bind fun t51 => U.asBool t51
 (some (.bool false))
 (U.asAgg x1 fun us52 => if 7 = sizes (us52.take 7) then (us52[7]?).bind fun e53 => U.asVar false 1 e53 fun e54 => U.asAgg x2 fun us55 => if 7 = sizes (us55.take 7) then (us55[7]?).bind fun e56 => U.asVar false 1 e56 fun e57 => (E 34 [e54, e57]).bind fun t58 => (U.un .not t58).bind fun t59 => U.asBool t59
 (some (.bool false))
 (U.asAgg x1 fun us60 => if 8 = sizes (us60.take 8) then (us60[8]?).bind fun e61 => U.asVar false 1 e61 fun e62 => U.asAgg x2 fun us63 => if 8 = sizes (us63.take 8) then (us63[8]?).bind fun e64 => U.asVar false 1 e64 fun e65 => (E 33 [e62, e65]).bind fun t66 => (U.un .not t66).bind fun t67 => U.asBool t67
 (some (.bool false))
 (some (.bool true)) else none else none) else none else none) else none else none) else none else none) else none else none) else none else none) else none else none) else none else none) else none else none := (h.is _ rfl).trans (laws_eqTransaction_eq E a0 a1)

end Go.Proofs.Ytfdcdbkblkehcaa.Am
namespace Go.Proofs.Ytfdcdbkblkehcaa.Am
open Go
set_option linter.unusedVariables false
set_option maxRecDepth 100000

/- loop.example/g01924/laws.eqTransactionS -/
def laws_eqTransactionS_b0 : AC :=
 (.seq (.seq (.region 0 [⟨some 11, .mv (.t 5), none⟩,
  ⟨some 12, .mv (.t 0), none⟩,
  ⟨some 13, .len false (.t 12), none⟩,
  ⟨some 14, .bin .lss (.t 11) (.t 13), none⟩])
 (.cond (.t 14) .skip (.exit 0)))
 (.seq (.block 1 (.seq (.region 10 [⟨some 17, .mv (.t 0), none⟩,
  ⟨some 18, .mv (.t 5), none⟩,
  ⟨some 19, .iaddr 9 (.t 17) (.t 18), none⟩,
  ⟨some 20, .load true 9 (.t 19), none⟩,
  ⟨some 21, .mv (.t 1), none⟩,
  ⟨some 22, .mv (.t 5), none⟩,
  ⟨some 23, .iaddr 9 (.t 21) (.t 22), none⟩,
  ⟨some 24, .load true 9 (.t 23), none⟩,
  ⟨some 25, .call false 177 [(.t 20), (.t 24)], none⟩,
  ⟨some 26, .un .not (.t 25), none⟩])
 (.cond (.t 26) (.seq (.region 0 [⟨some 4, .mv (.c (.bool false)), none⟩])
 .ret) .skip)))
 (.region 0 [⟨some 15, .mv (.t 5), none⟩,
  ⟨some 16, .bin .add (.t 15) (.c (.int .i64 1)), none⟩,
  ⟨some 5, .mv (.t 16), none⟩])))
def laws_eqTransactionS_r0 : AC :=
 (.seq (.region 0 [⟨some 4, .mv (.c (.bool true)), none⟩])
 .ret)
def laws_eqTransactionS_ac : AC :=
 (.seq (.region 0 [⟨some 4, .mv (.c (.bool false)), none⟩])
 (.seq (.seq (.region 0 [⟨some 6, .mv (.t 0), none⟩,
  ⟨some 7, .len false (.t 6), none⟩,
  ⟨some 8, .mv (.t 1), none⟩,
  ⟨some 9, .len false (.t 8), none⟩,
  ⟨some 10, .bin .neq (.t 7) (.t 9), none⟩])
 (.cond (.t 10) (.seq (.region 0 [⟨some 4, .mv (.c (.bool false)), none⟩])
 .ret) .skip))
 (.seq (.seq (.region 0 [⟨some 5, .mv (.c (.int .i64 0)), none⟩])
 (.block 0 (.loop ⟨[0, 1, 5], [], []⟩ laws_eqTransactionS_b0)))
 laws_eqTransactionS_r0)))
noncomputable def laws_eqTransactionS_l0 (E : Env) (x0 : U) (x1 : U) (x5 : U) : Option U := loopK (roundOf E ⟨[0, 1, 5], [], []⟩ laws_eqTransactionS_b0 (blockK 0 (seqK (fun s => exec E laws_eqTransactionS_r0 s (finish [(4, none)])) (finish [(4, none)])))) ([.val x0, .val x1, .val x5], [])
theorem laws_eqTransactionS_eq (E : Env) (a0 : U) (a1 : U) : run E laws_eqTransactionS_ac [(4, none)] [a0, a1] =
 (U.lenOf false a0).bind fun n1 => (U.lenOf false a1).bind fun n2 => (U.bin .neq (.int .i64 (n1 : Int)) (.int .i64 (n2 : Int))).bind fun t3 => U.asBool t3
 (some (.bool false))
 (laws_eqTransactionS_l0 E a0 a1 (.int .i64 0)) := by kernel_rfl
theorem laws_eqTransactionS_l0_eq (E : Env) (x0 : U) (x1 : U) (x5 : U) : laws_eqTransactionS_l0 E x0 x1 x5 =
 (U.lenOf false x0).bind fun n4 => (U.bin .lss x5 (.int .i64 (n4 : Int))).bind fun t5 => U.asBool t5
 (U.asInt x5 fun n6 => U.elemAt 9 x0 n6 fun e7 => U.asVar true 9 e7 fun e8 => U.asInt x5 fun n9 => U.elemAt 9 x1 n9 fun e10 => U.asVar true 9 e10 fun e11 => (E 177 [e8, e11]).bind fun t12 => (U.un .not t12).bind fun t13 => U.asBool t13
 (some (.bool false))
 ((U.bin .add x5 (.int .i64 1)).bind fun t14 => laws_eqTransactionS_l0 E x0 x1 t14))
 (some (.bool true)) :=
 (loop_eq E _ _ _ _).trans (by kernel_rfl)

/-- In the environment E: this function and those that it calls. -/
structure G_laws_eqTransactionS (E : Env) : Prop where
  is : Is E 176 2 laws_eqTransactionS_ac [(4, none)]
  c_laws_eqTransaction : G_laws_eqTransaction E
theorem laws_eqTransactionS_E {E : Env} (h : G_laws_eqTransactionS E) (a0 a1 : U) : E 176 [a0, a1] =
 (U.lenOf false a0).bind fun n1 => (U.lenOf false a1).bind fun n2 => (U.bin .neq (.int .i64 (n1 : Int)) (.int .i64 (n2 : Int))).bind fun t3 => U.asBool t3
 (some (.bool false))
 (laws_eqTransactionS_l0 E a0 a1 (.int .i64 0)) := (h.is _ rfl).trans (laws_eqTransactionS_eq E a0 a1)

end Go.Proofs.Ytfdcdbkblkehcaa.Am
namespace Go.Proofs.Ytfdcdbkblkehcaa.Am
open Go
set_option linter.unusedVariables false
set_option maxRecDepth 100000

/- loop.example/g01924/laws.eqLock -/
def laws_eqLock_ac : AC :=
 (.seq (.region 0 [⟨some 2, .box false (.t 0), none⟩,
  ⟨some 3, .box false (.t 1), none⟩,
  ⟨some 4, .mv (.c (.bool false)), none⟩])
 (.seq (.seq (.region 0 [⟨some 5, .faddr 0 0 (.t 2), none⟩,
  ⟨some 6, .load false 1 (.t 5), none⟩,
  ⟨some 7, .faddr 0 0 (.t 3), none⟩,
  ⟨some 8, .load false 1 (.t 7), none⟩,
  ⟨some 9, .bin .neq (.t 6) (.t 8), none⟩])
 (.cond (.t 9) (.seq (.region 0 [⟨some 4, .mv (.c (.bool false)), none⟩])
 .ret) .skip))
 (.seq (.seq (.region 0 [⟨some 10, .faddr 1 1 (.t 2), none⟩,
  ⟨some 11, .load false 1 (.t 10), none⟩,
  ⟨some 12, .faddr 1 1 (.t 3), none⟩,
  ⟨some 13, .load false 1 (.t 12), none⟩,
  ⟨some 14, .bin .neq (.t 11) (.t 13), none⟩])
 (.cond (.t 14) (.seq (.region 0 [⟨some 4, .mv (.c (.bool false)), none⟩])
 .ret) .skip))
 (.seq (.region 0 [⟨some 4, .mv (.c (.bool true)), none⟩])
 .ret))))

theorem laws_eqLock_eq (E : Env) (a0 : U) (a1 : U) : run E laws_eqLock_ac [(4, none)] [a0, a1] =
 U.noTup a0 fun x1 => U.noTup a1 fun x2 => U.asAgg x1 fun us3 => if 0 = sizes (us3.take 0) then (us3[0]?).bind fun e4 => U.asVar false 1 e4 fun e5 => U.asAgg x2 fun us6 => if 0 = sizes (us6.take 0) then (us6[0]?).bind fun e7 => U.asVar false 1 e7 fun e8 => (U.bin .neq e5 e8).bind fun t9 => U.asBool t9
 (some (.bool false))
 (U.asAgg x1 fun us10 => if 1 = sizes (us10.take 1) then (us10[1]?).bind fun e11 => U.asVar false 1 e11 fun e12 => U.asAgg x2 fun us13 => if 1 = sizes (us13.take 1) then (us13[1]?).bind fun e14 => U.asVar false 1 e14 fun e15 => (U.bin .neq e12 e15).bind fun t16 => U.asBool t16
 (some (.bool false))
 (some (.bool true)) else none else none) else none else none := by kernel_rfl

/-- In the environment E: this function and those that it calls. -/
structure G_laws_eqLock (E : Env) : Prop where
  is : Is E 178 2 laws_eqLock_ac [(4, none)]
theorem laws_eqLock_E {E : Env} (h : G_laws_eqLock E) (a0 a1 : U) : E 178 [a0, a1] =
 U.noTup a0 fun x1 => U.noTup a1 fun x2 => U.asAgg x1 fun us3 => if 0 = sizes (us3.take 0) then (us3[0]?).bind fun e4 => U.asVar false 1 e4 fun e5 => U.asAgg x2 fun us6 => if 0 = sizes (us6.take 0) then (us6[0]?).bind fun e7 => U.asVar false 1 e7 fun e8 => (U.bin .neq e5 e8).bind fun t9 => U.asBool t9
 (some (.bool false))
 (U.asAgg x1 fun us10 => if 1 = sizes (us10.take 1) then (us10[1]?).bind fun e11 => U.asVar false 1 e11 fun e12 => U.asAgg x2 fun us13 => if 1 = sizes (us13.take 1) then (us13[1]?).bind fun e14 => U.asVar false 1 e14 fun e15 => (U.bin .neq e12 e15).bind fun t16 => U.asBool t16
 (some (.bool false))
 (some (.bool true)) else none else none) else none else none := (h.is _ rfl).trans (laws_eqLock_eq E a0 a1)

end Go.Proofs.Ytfdcdbkblkehcaa.Am
namespace Go.Proofs.Ytfdcdbkblkehcaa.Am
open Go
set_option linter.unusedVariables false
set_option maxRecDepth 100000

/- loop.example/g01924/laws.eqLockS -/
def laws_eqLockS_b0 : AC :=
 (.seq (.seq (.region 0 [⟨some 11, .mv (.t 5), none⟩,
  ⟨some 12, .mv (.t 0), none⟩,
  ⟨some 13, .len false (.t 12), none⟩,
  ⟨some 14, .bin .lss (.t 11) (.t 13), none⟩])
 (.cond (.t 14) .skip (.exit 0)))
 (.seq (.block 1 (.seq (.region 10 [⟨some 17, .mv (.t 0), none⟩,
  ⟨some 18, .mv (.t 5), none⟩,
  ⟨some 19, .iaddr 2 (.t 17) (.t 18), none⟩,
  ⟨some 20, .load true 2 (.t 19), none⟩,
  ⟨some 21, .mv (.t 1), none⟩,
  ⟨some 22, .mv (.t 5), none⟩,
  ⟨some 23, .iaddr 2 (.t 21) (.t 22), none⟩,
  ⟨some 24, .load true 2 (.t 23), none⟩,
  ⟨some 25, .call false 178 [(.t 20), (.t 24)], none⟩,
  ⟨some 26, .un .not (.t 25), none⟩])
 (.cond (.t 26) (.seq (.region 0 [⟨some 4, .mv (.c (.bool false)), none⟩])
 .ret) .skip)))
 (.region 0 [⟨some 15, .mv (.t 5), none⟩,
  ⟨some 16, .bin .add (.t 15) (.c (.int .i64 1)), none⟩,
  ⟨some 5, .mv (.t 16), none⟩])))
def laws_eqLockS_r0 : AC :=
 (.seq (.region 0 [⟨some 4, .mv (.c (.bool true)), none⟩])
 .ret)
def laws_eqLockS_ac : AC :=
 (.seq (.region 0 [⟨some 4, .mv (.c (.bool false)), none⟩])
 (.seq (.seq (.region 0 [⟨some 6, .mv (.t 0), none⟩,
  ⟨some 7, .len false (.t 6), none⟩,
  ⟨some 8, .mv (.t 1), none⟩,
  ⟨some 9, .len false (.t 8), none⟩,
  ⟨some 10, .bin .neq (.t 7) (.t 9), none⟩])
 (.cond (.t 10) (.seq (.region 0 [⟨some 4, .mv (.c (.bool false)), none⟩])
 .ret) .skip))
 (.seq (.seq (.region 0 [⟨some 5, .mv (.c (.int .i64 0)), none⟩])
 (.block 0 (.loop ⟨[0, 1, 5], [], []⟩ laws_eqLockS_b0)))
 laws_eqLockS_r0)))
noncomputable def laws_eqLockS_l0 (E : Env) (x0 : U) (x1 : U) (x5 : U) : Option U := loopK (roundOf E ⟨[0, 1, 5], [], []⟩ laws_eqLockS_b0 (blockK 0 (seqK (fun s => exec E laws_eqLockS_r0 s (finish [(4, none)])) (finish [(4, none)])))) ([.val x0, .val x1, .val x5], [])
theorem laws_eqLockS_eq (E : Env) (a0 : U) (a1 : U) : run E laws_eqLockS_ac [(4, none)] [a0, a1] =
 (U.lenOf false a0).bind fun n1 => (U.lenOf false a1).bind fun n2 => (U.bin .neq (.int .i64 (n1 : Int)) (.int .i64 (n2 : Int))).bind fun t3 => U.asBool t3
 (some (.bool false))
 (laws_eqLockS_l0 E a0 a1 (.int .i64 0)) := by kernel_rfl
theorem laws_eqLockS_l0_eq (E : Env) (x0 : U) (x1 : U) (x5 : U) : laws_eqLockS_l0 E x0 x1 x5 =
 (U.lenOf false x0).bind fun n4 => (U.bin .lss x5 (.int .i64 (n4 : Int))).bind fun t5 => U.asBool t5
 (U.asInt x5 fun n6 => U.elemAt 2 x0 n6 fun e7 => U.asVar true 2 e7 fun e8 => U.asInt x5 fun n9 => U.elemAt 2 x1 n9 fun e10 => U.asVar true 2 e10 fun e11 => (E 178 [e8, e11]).bind fun t12 => (U.un .not t12).bind fun t13 => U.asBool t13
 (some (.bool false))
 ((U.bin .add x5 (.int .i64 1)).bind fun t14 => laws_eqLockS_l0 E x0 x1 t14))
 (some (.bool true)) :=
 (loop_eq E _ _ _ _).trans (by kernel_rfl)

/-- In the environment E: this function and those that it calls. -/
structure G_laws_eqLockS (E : Env) : Prop where
  is : Is E 175 2 laws_eqLockS_ac [(4, none)]
  c_laws_eqLock : G_laws_eqLock E
theorem laws_eqLockS_E {E : Env} (h : G_laws_eqLockS E) (a0 a1 : U) : E 175 [a0, a1] =
 (U.lenOf false a0).bind fun n1 => (U.lenOf false a1).bind fun n2 => (U.bin .neq (.int .i64 (n1 : Int)) (.int .i64 (n2 : Int))).bind fun t3 => U.asBool t3
 (some (.bool false))
 (laws_eqLockS_l0 E a0 a1 (.int .i64 0)) := (h.is _ rfl).trans (laws_eqLockS_eq E a0 a1)

end Go.Proofs.Ytfdcdbkblkehcaa.Am
namespace Go.Proofs.Ytfdcdbkblkehcaa.Am
open Go
set_option linter.unusedVariables false
set_option maxRecDepth 100000

/- loop.example/g01924/laws.eqWait -/
def laws_eqWait_ac : AC :=
 (.seq (.region 0 [⟨some 2, .box false (.t 0), none⟩,
  ⟨some 3, .box false (.t 1), none⟩,
  ⟨some 4, .mv (.c (.bool false)), none⟩])
 (.seq (.seq (.region 0 [⟨some 5, .faddr 0 0 (.t 2), none⟩,
  ⟨some 6, .load false 1 (.t 5), none⟩,
  ⟨some 7, .faddr 0 0 (.t 3), none⟩,
  ⟨some 8, .load false 1 (.t 7), none⟩,
  ⟨some 9, .bin .neq (.t 6) (.t 8), none⟩])
 (.cond (.t 9) (.seq (.region 0 [⟨some 4, .mv (.c (.bool false)), none⟩])
 .ret) .skip))
 (.seq (.seq (.region 0 [⟨some 10, .faddr 1 1 (.t 2), none⟩,
  ⟨some 11, .load false 1 (.t 10), none⟩,
  ⟨some 12, .faddr 1 1 (.t 3), none⟩,
  ⟨some 13, .load false 1 (.t 12), none⟩,
  ⟨some 14, .bin .neq (.t 11) (.t 13), none⟩])
 (.cond (.t 14) (.seq (.region 0 [⟨some 4, .mv (.c (.bool false)), none⟩])
 .ret) .skip))
 (.seq (.region 0 [⟨some 4, .mv (.c (.bool true)), none⟩])
 .ret))))

theorem laws_eqWait_eq (E : Env) (a0 : U) (a1 : U) : run E laws_eqWait_ac [(4, none)] [a0, a1] =
 U.noTup a0 fun x1 => U.noTup a1 fun x2 => U.asAgg x1 fun us3 => if 0 = sizes (us3.take 0) then (us3[0]?).bind fun e4 => U.asVar false 1 e4 fun e5 => U.asAgg x2 fun us6 => if 0 = sizes (us6.take 0) then (us6[0]?).bind fun e7 => U.asVar false 1 e7 fun e8 => (U.bin .neq e5 e8).bind fun t9 => U.asBool t9
 (some (.bool false))
 (U.asAgg x1 fun us10 => if 1 = sizes (us10.take 1) then (us10[1]?).bind fun e11 => U.asVar false 1 e11 fun e12 => U.asAgg x2 fun us13 => if 1 = sizes (us13.take 1) then (us13[1]?).bind fun e14 => U.asVar false 1 e14 fun e15 => (U.bin .neq e12 e15).bind fun t16 => U.asBool t16
 (some (.bool false))
 (some (.bool true)) else none else none) else none else none := by kernel_rfl

/-- In the environment E: this function and those that it calls. -/
structure G_laws_eqWait (E : Env) : Prop where
  is : Is E 179 2 laws_eqWait_ac [(4, none)]
theorem laws_eqWait_E {E : Env} (h : G_laws_eqWait E) (a0 a1 : U) : E 179 [a0, a1] =
 U.noTup a0 fun x1 => U.noTup a1 fun x2 => U.asAgg x1 fun us3 => if 0 = sizes (us3.take 0) then (us3[0]?).bind fun e4 => U.asVar false 1 e4 fun e5 => U.asAgg x2 fun us6 => if 0 = sizes (us6.take 0) then (us6[0]?).bind fun e7 => U.asVar false 1 e7 fun e8 => (U.bin .neq e5 e8).bind fun t9 => U.asBool t9
 (some (.bool false))
 (U.asAgg x1 fun us10 => if 1 = sizes (us10.take 1) then (us10[1]?).bind fun e11 => U.asVar false 1 e11 fun e12 => U.asAgg x2 fun us13 => if 1 = sizes (us13.take 1) then (us13[1]?).bind fun e14 => U.asVar false 1 e14 fun e15 => (U.bin .neq e12 e15).bind fun t16 => U.asBool t16
 (some (.bool false))
 (some (.bool true)) else none else none) else none else none := (h.is _ rfl).trans (laws_eqWait_eq E a0 a1)

end Go.Proofs.Ytfdcdbkblkehcaa.Am
namespace Go.Proofs.Ytfdcdbkblkehcaa.Am
open Go
set_option linter.unusedVariables false
set_option maxRecDepth 100000

/- loop.example/g01924/laws.eqWaitS -/
def laws_eqWaitS_b0 : AC :=
 (.seq (.seq (.region 0 [⟨some 11, .mv (.t 5), none⟩,
  ⟨some 12, .mv (.t 0), none⟩,
  ⟨some 13, .len false (.t 12), none⟩,
  ⟨some 14, .bin .lss (.t 11) (.t 13), none⟩])
 (.cond (.t 14) .skip (.exit 0)))
 (.seq (.block 1 (.seq (.region 10 [⟨some 17, .mv (.t 0), none⟩,
  ⟨some 18, .mv (.t 5), none⟩,
  ⟨some 19, .iaddr 2 (.t 17) (.t 18), none⟩,
  ⟨some 20, .load true 2 (.t 19), none⟩,
  ⟨some 21, .mv (.t 1), none⟩,
  ⟨some 22, .mv (.t 5), none⟩,
  ⟨some 23, .iaddr 2 (.t 21) (.t 22), none⟩,
  ⟨some 24, .load true 2 (.t 23), none⟩,
  ⟨some 25, .call false 179 [(.t 20), (.t 24)], none⟩,
  ⟨some 26, .un .not (.t 25), none⟩])
 (.cond (.t 26) (.seq (.region 0 [⟨some 4, .mv (.c (.bool false)), none⟩])
 .ret) .skip)))
 (.region 0 [⟨some 15, .mv (.t 5), none⟩,
  ⟨some 16, .bin .add (.t 15) (.c (.int .i64 1)), none⟩,
  ⟨some 5, .mv (.t 16), none⟩])))
def laws_eqWaitS_r0 : AC :=
 (.seq (.region 0 [⟨some 4, .mv (.c (.bool true)), none⟩])
 .ret)
def laws_eqWaitS_ac : AC :=
 (.seq (.region 0 [⟨some 4, .mv (.c (.bool false)), none⟩])
 (.seq (.seq (.region 0 [⟨some 6, .mv (.t 0), none⟩,
  ⟨some 7, .len false (.t 6), none⟩,
  ⟨some 8, .mv (.t 1), none⟩,
  ⟨some 9, .len false (.t 8), none⟩,
  ⟨some 10, .bin .neq (.t 7) (.t 9), none⟩])
 (.cond (.t 10) (.seq (.region 0 [⟨some 4, .mv (.c (.bool false)), none⟩])
 .ret) .skip))
 (.seq (.seq (.region 0 [⟨some 5, .mv (.c (.int .i64 0)), none⟩])
 (.block 0 (.loop ⟨[0, 1, 5], [], []⟩ laws_eqWaitS_b0)))
 laws_eqWaitS_r0)))
noncomputable def laws_eqWaitS_l0 (E : Env) (x0 : U) (x1 : U) (x5 : U) : Option U := loopK (roundOf E ⟨[0, 1, 5], [], []⟩ laws_eqWaitS_b0 (blockK 0 (seqK (fun s => exec E laws_eqWaitS_r0 s (finish [(4, none)])) (finish [(4, none)])))) ([.val x0, .val x1, .val x5], [])
theorem laws_eqWaitS_eq (E : Env) (a0 : U) (a1 : U) : run E laws_eqWaitS_ac [(4, none)] [a0, a1] =
 (U.lenOf false a0).bind fun n1 => (U.lenOf false a1).bind fun n2 => (U.bin .neq (.int .i64 (n1 : Int)) (.int .i64 (n2 : Int))).bind fun t3 => U.asBool t3
 (some (.bool false))
 (laws_eqWaitS_l0 E a0 a1 (.int .i64 0)) := by kernel_rfl
theorem laws_eqWaitS_l0_eq (E : Env) (x0 : U) (x1 : U) (x5 : U) : laws_eqWaitS_l0 E x0 x1 x5 =
 (U.lenOf false x0).bind fun n4 => (U.bin .lss x5 (.int .i64 (n4 : Int))).bind fun t5 => U.asBool t5
 (U.asInt x5 fun n6 => U.elemAt 2 x0 n6 fun e7 => U.asVar true 2 e7 fun e8 => U.asInt x5 fun n9 => U.elemAt 2 x1 n9 fun e10 => U.asVar true 2 e10 fun e11 => (E 179 [e8, e11]).bind fun t12 => (U.un .not t12).bind fun t13 => U.asBool t13
 (some (.bool false))
 ((U.bin .add x5 (.int .i64 1)).bind fun t14 => laws_eqWaitS_l0 E x0 x1 t14))
 (some (.bool true)) :=
 (loop_eq E _ _ _ _).trans (by kernel_rfl)

/-- In the environment E: this function and those that it calls. -/
structure G_laws_eqWaitS (E : Env) : Prop where
  is : Is E 174 2 laws_eqWaitS_ac [(4, none)]
  c_laws_eqWait : G_laws_eqWait E
theorem laws_eqWaitS_E {E : Env} (h : G_laws_eqWaitS E) (a0 a1 : U) : E 174 [a0, a1] =
 (U.lenOf false a0).bind fun n1 => (U.lenOf false a1).bind fun n2 => (U.bin .neq (.int .i64 (n1 : Int)) (.int .i64 (n2 : Int))).bind fun t3 => U.asBool t3
 (some (.bool false))
 (laws_eqWaitS_l0 E a0 a1 (.int .i64 0)) := (h.is _ rfl).trans (laws_eqWaitS_eq E a0 a1)

end Go.Proofs.Ytfdcdbkblkehcaa.Am
namespace Go.Proofs.Ytfdcdbkblkehcaa.Am
open Go
set_option linter.unusedVariables false
set_option maxRecDepth 100000

/- loop.example/g01924/laws.eqEngine -/
def laws_eqEngine_ac : AC :=
 (.seq (.region 0 [⟨some 2, .box false (.t 0), none⟩,
  ⟨some 3, .box false (.t 1), none⟩,
  ⟨some 4, .mv (.c (.bool false)), none⟩])
 (.seq (.seq (.region 0 [⟨some 5, .faddr 0 0 (.t 2), none⟩,
  ⟨some 6, .load false 1 (.t 5), none⟩,
  ⟨some 7, .faddr 0 0 (.t 3), none⟩,
  ⟨some 8, .load false 1 (.t 7), none⟩,
  ⟨some 9, .eqv true 0 (.t 6) (.t 8), none⟩])
 (.cond (.t 9) (.seq (.region 0 [⟨some 4, .mv (.c (.bool false)), none⟩])
 .ret) .skip))
 (.seq (.seq (.region 0 [⟨some 10, .faddr 1 1 (.t 2), none⟩,
  ⟨some 11, .load true 1 (.t 10), none⟩,
  ⟨some 12, .faddr 1 1 (.t 3), none⟩,
  ⟨some 13, .load true 1 (.t 12), none⟩,
  ⟨some 14, .call false 97 [(.t 11), (.t 13)], none⟩,
  ⟨some 15, .un .not (.t 14), none⟩])
 (.cond (.t 15) (.seq (.region 0 [⟨some 4, .mv (.c (.bool false)), none⟩])
 .ret) .skip))
 (.seq (.seq (.region 0 [⟨some 16, .faddr 2 2 (.t 2), none⟩,
  ⟨some 17, .load false 1 (.t 16), none⟩,
  ⟨some 18, .faddr 2 2 (.t 3), none⟩,
  ⟨some 19, .load false 1 (.t 18), none⟩,
  ⟨some 20, .call false 176 [(.t 17), (.t 19)], none⟩,
  ⟨some 21, .un .not (.t 20), none⟩])
 (.cond (.t 21) (.seq (.region 0 [⟨some 4, .mv (.c (.bool false)), none⟩])
 .ret) .skip))
 (.seq (.seq (.region 0 [⟨some 22, .faddr 3 3 (.t 2), none⟩,
  ⟨some 23, .load false 1 (.t 22), none⟩,
  ⟨some 24, .faddr 3 3 (.t 3), none⟩,
  ⟨some 25, .load false 1 (.t 24), none⟩,
  ⟨some 26, .call false 175 [(.t 23), (.t 25)], none⟩,
  ⟨some 27, .un .not (.t 26), none⟩])
 (.cond (.t 27) (.seq (.region 0 [⟨some 4, .mv (.c (.bool false)), none⟩])
 .ret) .skip))
 (.seq (.seq (.region 0 [⟨some 28, .faddr 4 4 (.t 2), none⟩,
  ⟨some 29, .load false 1 (.t 28), none⟩,
  ⟨some 30, .faddr 4 4 (.t 3), none⟩,
  ⟨some 31, .load false 1 (.t 30), none⟩,
  ⟨some 32, .call false 174 [(.t 29), (.t 31)], none⟩,
  ⟨some 33, .un .not (.t 32), none⟩])
 (.cond (.t 33) (.seq (.region 0 [⟨some 4, .mv (.c (.bool false)), none⟩])
 .ret) .skip))
 (.seq (.seq (.region 0 [⟨some 34, .faddr 5 5 (.t 2), none⟩,
  ⟨some 35, .load false 1 (.t 34), none⟩,
  ⟨some 36, .faddr 5 5 (.t 3), none⟩,
  ⟨some 37, .load false 1 (.t 36), none⟩,
  ⟨some 38, .bin .neq (.t 35) (.t 37), none⟩])
 (.cond (.t 38) (.seq (.region 0 [⟨some 4, .mv (.c (.bool false)), none⟩])
 .ret) .skip))
 (.seq (.region 0 [⟨some 4, .mv (.c (.bool true)), none⟩])
 .ret))))))))

theorem laws_eqEngine_eq (E : Env) (a0 : U) (a1 : U) : run E laws_eqEngine_ac [(4, none)] [a0, a1] =
 U.noTup a0 fun x1 => U.noTup a1 fun x2 => U.asAgg x1 fun us3 => if 0 = sizes (us3.take 0) then (us3[0]?).bind fun e4 => U.asVar false 1 e4 fun e5 => U.asAgg x2 fun us6 => if 0 = sizes (us6.take 0) then (us6[0]?).bind fun e7 => U.asVar false 1 e7 fun e8 => (U.eqv 0 e5 e8).bind fun q9 => U.asBool (.bool (!q9))
 (some (.bool false))
 (U.asAgg x1 fun us10 => if 1 = sizes (us10.take 1) then (us10[1]?).bind fun e11 => U.asVar true 1 e11 fun e12 => U.asAgg x2 fun us13 => if 1 = sizes (us13.take 1) then (us13[1]?).bind fun e14 => U.asVar true 1 e14 fun e15 => (E 97 [e12, e15]).bind fun t16 => (U.un .not t16).bind fun t17 => U.asBool t17
 (some (.bool false))
 (U.asAgg x1 fun us18 => if 2 = sizes (us18.take 2) then (us18[2]?).bind fun e19 => U.asVar false 1 e19 fun e20 => U.asAgg x2 fun us21 => if 2 = sizes (us21.take 2) then (us21[2]?).bind fun e22 => U.asVar false 1 e22 fun e23 => (E 176 [e20, e23]).bind fun t24 => (U.un .not t24).bind fun t25 => U.asBool t25
 (some (.bool false))
 (U.asAgg x1 fun us26 => if 3 = sizes (us26.take 3) then (us26[3]?).bind fun e27 => U.asVar false 1 e27 fun e28 => U.asAgg x2 fun us29 => if 3 = sizes (us29.take 3) then (us29[3]?).bind fun e30 => U.asVar false 1 e30 fun e31 => (E 175 [e28, e31]).bind fun t32 => (U.un .not t32).bind fun t33 => U.asBool t33
 (some (.bool false))
 (U.asAgg x1 fun us34 => if 4 = sizes (us34.take 4) then (us34[4]?).bind fun e35 => U.asVar false 1 e35 fun e36 => U.asAgg x2 fun us37 => if 4 = sizes (us37.take 4) then (us37[4]?).bind fun e38 => U.asVar false 1 e38 fun e39 => (E 174 [e36, e39]).bind fun t40 => (U.un .not t40).bind fun t41 => U.asBool t41
 (some (.bool false))
 (U.asAgg x1 fun us42 => if 5 = sizes (us42.take 5) then (us42[5]?).bind fun e43 => U.asVar false 1 e43 fun e44 => U.asAgg x2 fun us45 => if 5 = sizes (us45.take 5) then (us45[5]?).bind fun e46 => U.asVar false 1 e46 fun e47 => (U.bin .neq e44 e47).bind fun t48 => U.asBool t48
 (some (.bool false))
 (some (.bool true)) else none else none) else none else none) else none else none) else none else none) else none else none) else none else none := by kernel_rfl

/-- In the environment E: this function and those that it calls. -/
structure G_laws_eqEngine (E : Env) : Prop where
  is : Is E 125 2 laws_eqEngine_ac [(4, none)]
  c_laws_eqStore : G_laws_eqStore E
  c_laws_eqTransactionS : G_laws_eqTransactionS E
  c_laws_eqLockS : G_laws_eqLockS E
  c_laws_eqWaitS : G_laws_eqWaitS E
theorem laws_eqEngine_E {E : Env} (h : G_laws_eqEngine E) (a0 a1 : U) : E 125 [a0, a1] =
 U.noTup a0 fun x1 => U.noTup a1 fun x2 => U.asAgg x1 fun us3 => if 0 = sizes (us3.take 0) then (us3[0]?).bind fun e4 => U.asVar false 1 e4 fun e5 => U.asAgg x2 fun us6 => if 0 = sizes (us6.take 0) then (us6[0]?).bind fun e7 => U.asVar false 1 e7 fun e8 => (U.eqv 0 e5 e8).bind fun q9 => U.asBool (.bool (!q9))
 (some (.bool false))
 (U.asAgg x1 fun us10 => if 1 = sizes (us10.take 1) then (us10[1]?).bind fun e11 => U.asVar true 1 e11 fun e12 => U.asAgg x2 fun us13 => if 1 = sizes (us13.take 1) then (us13[1]?).bind fun e14 => U.asVar true 1 e14 fun e15 => (E 97 [e12, e15]).bind fun t16 => (U.un .not t16).bind fun t17 => U.asBool t17
 (some (.bool false))
 (U.asAgg x1 fun us18 => if 2 = sizes (us18.take 2) then (us18[2]?).bind fun e19 => U.asVar false 1 e19 fun e20 => U.asAgg x2 fun us21 => if 2 = sizes (us21.take 2) then (us21[2]?).bind fun e22 => U.asVar false 1 e22 fun e23 => (E 176 [e20, e23]).bind fun t24 => (U.un .not t24).bind fun t25 => U.asBool t25
 (some (.bool false))
 (U.asAgg x1 fun us26 => if 3 = sizes (us26.take 3) then (us26[3]?).bind fun e27 => U.asVar false 1 e27 fun e28 => U.asAgg x2 fun us29 => if 3 = sizes (us29.take 3) then (us29[3]?).bind fun e30 => U.asVar false 1 e30 fun e31 => (E 175 [e28, e31]).bind fun t32 => (U.un .not t32).bind fun t33 => U.asBool t33
 (some (.bool false))
 (U.asAgg x1 fun us34 => if 4 = sizes (us34.take 4) then (us34[4]?).bind fun e35 => U.asVar false 1 e35 fun e36 => U.asAgg x2 fun us37 => if 4 = sizes (us37.take 4) then (us37[4]?).bind fun e38 => U.asVar false 1 e38 fun e39 => (E 174 [e36, e39]).bind fun t40 => (U.un .not t40).bind fun t41 => U.asBool t41
 (some (.bool false))
 (U.asAgg x1 fun us42 => if 5 = sizes (us42.take 5) then (us42[5]?).bind fun e43 => U.asVar false 1 e43 fun e44 => U.asAgg x2 fun us45 => if 5 = sizes (us45.take 5) then (us45[5]?).bind fun e46 => U.asVar false 1 e46 fun e47 => (U.bin .neq e44 e47).bind fun t48 => U.asBool t48
 (some (.bool false))
 (some (.bool true)) else none else none) else none else none) else none else none) else none else none) else none else none) else none else none := (h.is _ rfl).trans (laws_eqEngine_eq E a0 a1)

end Go.Proofs.Ytfdcdbkblkehcaa.Am
namespace Go.Proofs.Ytfdcdbkblkehcaa.Am
open Go
set_option linter.unusedVariables false
set_option maxRecDepth 100000

/- loop.example/g01924/laws.eqNode -/
def laws_eqNode_ac : AC :=
 (.seq (.region 0 [⟨some 2, .box false (.t 0), none⟩,
  ⟨some 3, .box false (.t 1), none⟩,
  ⟨some 4, .mv (.c (.bool false)), none⟩])
 (.seq (.seq (.region 0 [⟨some 5, .faddr 0 0 (.t 2), none⟩,
  ⟨some 6, .load true 6 (.t 5), none⟩,
  ⟨some 7, .faddr 0 0 (.t 3), none⟩,
  ⟨some 8, .load true 6 (.t 7), none⟩,
  ⟨some 9, .call false 125 [(.t 6), (.t 8)], none⟩,
  ⟨some 10, .un .not (.t 9), none⟩])
 (.cond (.t 10) (.seq (.region 0 [⟨some 4, .mv (.c (.bool false)), none⟩])
 .ret) .skip))
 (.seq (.seq (.region 0 [⟨some 11, .faddr 1 6 (.t 2), none⟩,
  ⟨some 12, .load false 1 (.t 11), none⟩,
  ⟨some 13, .faddr 1 6 (.t 3), none⟩,
  ⟨some 14, .load false 1 (.t 13), none⟩,
  ⟨some 15, .bin .neq (.t 12) (.t 14), none⟩])
 (.cond (.t 15) (.seq (.region 0 [⟨some 4, .mv (.c (.bool false)), none⟩])
 .ret) .skip))
 (.seq (.region 0 [⟨some 4, .mv (.c (.bool true)), none⟩])
 .ret))))

theorem laws_eqNode_eq (E : Env) (a0 : U) (a1 : U) : run E laws_eqNode_ac [(4, none)] [a0, a1] =
 U.noTup a0 fun x1 => U.noTup a1 fun x2 => U.asAgg x1 fun us3 => if 0 = sizes (us3.take 0) then (us3[0]?).bind fun e4 => U.asVar true 6 e4 fun e5 => U.asAgg x2 fun us6 => if 0 = sizes (us6.take 0) then (us6[0]?).bind fun e7 => U.asVar true 6 e7 fun e8 => (E 125 [e5, e8]).bind fun t9 => (U.un .not t9).bind fun t10 => U.asBool t10
 (some (.bool false))
 (U.asAgg x1 fun us11 => if 6 = sizes (us11.take 1) then (us11[1]?).bind fun e12 => U.asVar false 1 e12 fun e13 => U.asAgg x2 fun us14 => if 6 = sizes (us14.take 1) then (us14[1]?).bind fun e15 => U.asVar false 1 e15 fun e16 => (U.bin .neq e13 e16).bind fun t17 => U.asBool t17
 (some (.bool false))
 (some (.bool true)) else none else none) else none else none := by kernel_rfl

/-- In the environment E: this function and those that it calls. -/
structure G_laws_eqNode (E : Env) : Prop where
  is : Is E 260 2 laws_eqNode_ac [(4, none)]
  c_laws_eqEngine : G_laws_eqEngine E
theorem laws_eqNode_E {E : Env} (h : G_laws_eqNode E) (a0 a1 : U) : E 260 [a0, a1] =
 U.noTup a0 fun x1 => U.noTup a1 fun x2 => U.asAgg x1 fun us3 => if 0 = sizes (us3.take 0) then (us3[0]?).bind fun e4 => U.asVar true 6 e4 fun e5 => U.asAgg x2 fun us6 => if 0 = sizes (us6.take 0) then (us6[0]?).bind fun e7 => U.asVar true 6 e7 fun e8 => (E 125 [e5, e8]).bind fun t9 => (U.un .not t9).bind fun t10 => U.asBool t10
 (some (.bool false))
 (U.asAgg x1 fun us11 => if 6 = sizes (us11.take 1) then (us11[1]?).bind fun e12 => U.asVar false 1 e12 fun e13 => U.asAgg x2 fun us14 => if 6 = sizes (us14.take 1) then (us14[1]?).bind fun e15 => U.asVar false 1 e15 fun e16 => (U.bin .neq e13 e16).bind fun t17 => U.asBool t17
 (some (.bool false))
 (some (.bool true)) else none else none) else none else none := (h.is _ rfl).trans (laws_eqNode_eq E a0 a1)

end Go.Proofs.Ytfdcdbkblkehcaa.Am
namespace Go.Proofs.Ytfdcdbkblkehcaa.Am
open Go
set_option linter.unusedVariables false
set_option maxRecDepth 100000

/- loop.example/g01924/laws.szVersionS -/
def laws_szVersionS_ac : AC :=
 (.seq (.region 0 [⟨some 4, .mv (.c (.int .i64 0)), none⟩])
 (.seq (.region 0 [⟨some 5, .mv (.t 1), none⟩,
  ⟨some 6, .mv (.t 0), none⟩,
  ⟨some 7, .len false (.t 6), none⟩,
  ⟨some 8, .bin .sub (.t 5) (.t 7), none⟩,
  ⟨some 1, .mv (.t 8), none⟩])
 (.seq (.seq (.region 0 [⟨some 9, .mv (.t 1), none⟩,
  ⟨some 10, .bin .lss (.t 9) (.c (.int .i64 0)), none⟩])
 (.cond (.t 10) (.seq (.region 0 [⟨some 4, .mv (.c (.int .i64 (-1))), none⟩])
 .ret) .skip))
 (.seq (.region 0 [⟨some 11, .mv (.t 1), none⟩,
  ⟨some 4, .mv (.t 11), none⟩])
 .ret))))

theorem laws_szVersionS_eq (E : Env) (a0 : U) (a1 : U) : run E laws_szVersionS_ac [(4, none)] [a0, a1] =
 (U.lenOf false a0).bind fun n1 => (U.bin .sub a1 (.int .i64 (n1 : Int))).bind fun t2 => (U.bin .lss t2 (.int .i64 0)).bind fun t3 => U.asBool t3
 (some (.int .i64 (-1)))
 (some t2) := by kernel_rfl

/-- In the environment E: this function and those that it calls. -/
structure G_laws_szVersionS (E : Env) : Prop where
  is : Is E 101 2 laws_szVersionS_ac [(4, none)]
theorem laws_szVersionS_E {E : Env} (h : G_laws_szVersionS E) (a0 a1 : U) : E 101 [a0, a1] =
 (U.lenOf false a0).bind fun n1 => (U.bin .sub a1 (.int .i64 (n1 : Int))).bind fun t2 => (U.bin .lss t2 (.int .i64 0)).bind fun t3 => U.asBool t3
 (some (.int .i64 (-1)))
 (some t2) := (h.is _ rfl).trans (laws_szVersionS_eq E a0 a1)

end Go.Proofs.Ytfdcdbkblkehcaa.Am
namespace Go.Proofs.Ytfdcdbkblkehcaa.Am
open Go
set_option linter.unusedVariables false
set_option maxRecDepth 100000

/- loop.example/g01924/laws.szVersionSS -/
def laws_szVersionSS_b0 : AC :=
 (.seq (.seq (.region 0 [⟨some 12, .mv (.t 5), none⟩,
  ⟨some 13, .mv (.t 0), none⟩,
  ⟨some 14, .len false (.t 13), none⟩,
  ⟨some 15, .bin .lss (.t 12) (.t 14), none⟩])
 (.cond (.t 15) .skip (.exit 0)))
 (.seq (.block 1 (.seq (.region 0 [⟨some 18, .mv (.t 0), none⟩,
  ⟨some 19, .mv (.t 5), none⟩,
  ⟨some 20, .iaddr 1 (.t 18) (.t 19), none⟩,
  ⟨some 21, .load false 1 (.t 20), none⟩,
  ⟨some 22, .mv (.t 1), none⟩,
  ⟨some 23, .call false 101 [(.t 21), (.t 22)], none⟩,
  ⟨some 1, .mv (.t 23), none⟩])
 (.seq (.region 0 [⟨some 24, .mv (.t 1), none⟩,
  ⟨some 25, .bin .lss (.t 24) (.c (.int .i64 0)), none⟩])
 (.cond (.t 25) (.seq (.region 0 [⟨some 4, .mv (.c (.int .i64 (-1))), none⟩])
 .ret) .skip))))
 (.region 0 [⟨some 16, .mv (.t 5), none⟩,
  ⟨some 17, .bin .add (.t 16) (.c (.int .i64 1)), none⟩,
  ⟨some 5, .mv (.t 17), none⟩])))
def laws_szVersionSS_r0 : AC :=
 (.seq (.region 0 [⟨some 26, .mv (.t 1), none⟩,
  ⟨some 4, .mv (.t 26), none⟩])
 .ret)
def laws_szVersionSS_ac : AC :=
 (.seq (.region 0 [⟨some 4, .mv (.c (.int .i64 0)), none⟩])
 (.seq (.region 0 [⟨some 6, .mv (.t 1), none⟩,
  ⟨some 7, .mv (.t 0), none⟩,
  ⟨some 8, .len false (.t 7), none⟩,
  ⟨some 9, .bin .sub (.t 6) (.t 8), none⟩,
  ⟨some 1, .mv (.t 9), none⟩])
 (.seq (.seq (.region 0 [⟨some 10, .mv (.t 1), none⟩,
  ⟨some 11, .bin .lss (.t 10) (.c (.int .i64 0)), none⟩])
 (.cond (.t 11) (.seq (.region 0 [⟨some 4, .mv (.c (.int .i64 (-1))), none⟩])
 .ret) .skip))
 (.seq (.seq (.region 0 [⟨some 5, .mv (.c (.int .i64 0)), none⟩])
 (.block 0 (.loop ⟨[0, 1, 5], [], []⟩ laws_szVersionSS_b0)))
 laws_szVersionSS_r0))))
noncomputable def laws_szVersionSS_l0 (E : Env) (x0 : U) (x1 : U) (x5 : U) : Option U := loopK (roundOf E ⟨[0, 1, 5], [], []⟩ laws_szVersionSS_b0 (blockK 0 (seqK (fun s => exec E laws_szVersionSS_r0 s (finish [(4, none)])) (finish [(4, none)])))) ([.val x0, .val x1, .val x5], [])
theorem laws_szVersionSS_eq (E : Env) (a0 : U) (a1 : U) : run E laws_szVersionSS_ac [(4, none)] [a0, a1] =
 (U.lenOf false a0).bind fun n1 => (U.bin .sub a1 (.int .i64 (n1 : Int))).bind fun t2 => (U.bin .lss t2 (.int .i64 0)).bind fun t3 => U.asBool t3
 (some (.int .i64 (-1)))
 (laws_szVersionSS_l0 E a0 t2 (.int .i64 0)) := by kernel_rfl
theorem laws_szVersionSS_l0_eq (E : Env) (x0 : U) (x1 : U) (x5 : U) : laws_szVersionSS_l0 E x0 x1 x5 =
 (U.lenOf false x0).bind fun n4 => (U.bin .lss x5 (.int .i64 (n4 : Int))).bind fun t5 => U.asBool t5
 (U.asInt x5 fun n6 => U.elemAt 1 x0 n6 fun e7 => U.asVar false 1 e7 fun e8 => (E 101 [e8, x1]).bind fun t9 => (U.bin .lss t9 (.int .i64 0)).bind fun t10 => U.asBool t10
 (some (.int .i64 (-1)))
 ((U.bin .add x5 (.int .i64 1)).bind fun t11 => laws_szVersionSS_l0 E x0 t9 t11))
 (some x1) :=
 (loop_eq E _ _ _ _).trans (by kernel_rfl)

/-- In the environment E: this function and those that it calls. -/
structure G_laws_szVersionSS (E : Env) : Prop where
  is : Is E 100 2 laws_szVersionSS_ac [(4, none)]
  c_laws_szVersionS : G_laws_szVersionS E
theorem laws_szVersionSS_E {E : Env} (h : G_laws_szVersionSS E) (a0 a1 : U) : E 100 [a0, a1] =
 (U.lenOf false a0).bind fun n1 => (U.bin .sub a1 (.int .i64 (n1 : Int))).bind fun t2 => (U.bin .lss t2 (.int .i64 0)).bind fun t3 => U.asBool t3
 (some (.int .i64 (-1)))
 (laws_szVersionSS_l0 E a0 t2 (.int .i64 0)) := (h.is _ rfl).trans (laws_szVersionSS_eq E a0 a1)

end Go.Proofs.Ytfdcdbkblkehcaa.Am
namespace Go.Proofs.Ytfdcdbkblkehcaa.Am
open Go
set_option linter.unusedVariables false
set_option maxRecDepth 100000

/- loop.example/g01924/laws.szStore -/
def laws_szStore_ac : AC :=
 (.seq (.region 0 [⟨some 2, .box false (.t 0), none⟩,
  ⟨some 4, .mv (.c (.int .i64 0)), none⟩])
 (.seq (.region 0 [⟨some 5, .faddr 0 0 (.t 2), none⟩,
  ⟨some 6, .load false 1 (.t 5), none⟩,
  ⟨some 7, .mv (.t 1), none⟩,
  ⟨some 8, .call false 100 [(.t 6), (.t 7)], none⟩,
  ⟨some 1, .mv (.t 8), none⟩])
 (.seq (.seq (.region 0 [⟨some 9, .mv (.t 1), none⟩,
  ⟨some 10, .bin .lss (.t 9) (.c (.int .i64 0)), none⟩])
 (.cond (.t 10) (.seq (.region 0 [⟨some 4, .mv (.c (.int .i64 (-1))), none⟩])
 .ret) .skip))
 (.seq (.region 0 [⟨some 11, .mv (.t 1), none⟩,
  ⟨some 4, .mv (.t 11), none⟩])
 .ret))))

theorem laws_szStore_eq (E : Env) (a0 : U) (a1 : U) : run E laws_szStore_ac [(4, none)] [a0, a1] =
 U.noTup a0 fun x1 => U.asAgg x1 fun us2 => if 0 = sizes (us2.take 0) then (us2[0]?).bind fun e3 => U.asVar false 1 e3 fun e4 => (E 100 [e4, a1]).bind fun t5 => (U.bin .lss t5 (.int .i64 0)).bind fun t6 => U.asBool t6
 (some (.int .i64 (-1)))
 (some t5) else none := by kernel_rfl

/-- In the environment E: this function and those that it calls. -/
structure G_laws_szStore (E : Env) : Prop where
  is : Is E 99 2 laws_szStore_ac [(4, none)]
  c_laws_szVersionSS : G_laws_szVersionSS E
theorem laws_szStore_E {E : Env} (h : G_laws_szStore E) (a0 a1 : U) : E 99 [a0, a1] =
 U.noTup a0 fun x1 => U.asAgg x1 fun us2 => if 0 = sizes (us2.take 0) then (us2[0]?).bind fun e3 => U.asVar false 1 e3 fun e4 => (E 100 [e4, a1]).bind fun t5 => (U.bin .lss t5 (.int .i64 0)).bind fun t6 => U.asBool t6
 (some (.int .i64 (-1)))
 (some t5) else none := (h.is _ rfl).trans (laws_szStore_eq E a0 a1)

end Go.Proofs.Ytfdcdbkblkehcaa.Am
namespace Go.Proofs.Ytfdcdbkblkehcaa.Am
open Go
set_option linter.unusedVariables false
set_option maxRecDepth 100000

/- loop.example/g01924/laws.szReadMarkS -/
def laws_szReadMarkS_ac : AC :=
 (.seq (.region 0 [⟨some 4, .mv (.c (.int .i64 0)), none⟩])
 (.seq (.region 0 [⟨some 5, .mv (.t 1), none⟩,
  ⟨some 6, .mv (.t 0), none⟩,
  ⟨some 7, .len false (.t 6), none⟩,
  ⟨some 8, .bin .sub (.t 5) (.t 7), none⟩,
  ⟨some 1, .mv (.t 8), none⟩])
 (.seq (.seq (.region 0 [⟨some 9, .mv (.t 1), none⟩,
  ⟨some 10, .bin .lss (.t 9) (.c (.int .i64 0)), none⟩])
 (.cond (.t 10) (.seq (.region 0 [⟨some 4, .mv (.c (.int .i64 (-1))), none⟩])
 .ret) .skip))
 (.seq (.region 0 [⟨some 11, .mv (.t 1), none⟩,
  ⟨some 4, .mv (.t 11), none⟩])
 .ret))))

theorem laws_szReadMarkS_eq (E : Env) (a0 : U) (a1 : U) : run E laws_szReadMarkS_ac [(4, none)] [a0, a1] =
 (U.lenOf false a0).bind fun n1 => (U.bin .sub a1 (.int .i64 (n1 : Int))).bind fun t2 => (U.bin .lss t2 (.int .i64 0)).bind fun t3 => U.asBool t3
 (some (.int .i64 (-1)))
 (some t2) := by kernel_rfl

/-- In the environment E: this function and those that it calls. -/
structure G_laws_szReadMarkS (E : Env) : Prop where
  is : Is E 24 2 laws_szReadMarkS_ac [(4, none)]
theorem laws_szReadMarkS_E {E : Env} (h : G_laws_szReadMarkS E) (a0 a1 : U) : E 24 [a0, a1] =
 (U.lenOf false a0).bind fun n1 => (U.bin .sub a1 (.int .i64 (n1 : Int))).bind fun t2 => (U.bin .lss t2 (.int .i64 0)).bind fun t3 => U.asBool t3
 (some (.int .i64 (-1)))
 (some t2) := (h.is _ rfl).trans (laws_szReadMarkS_eq E a0 a1)

end Go.Proofs.Ytfdcdbkblkehcaa.Am
namespace Go.Proofs.Ytfdcdbkblkehcaa.Am
open Go
set_option linter.unusedVariables false
set_option maxRecDepth 100000

/- loop.example/g01924/laws.szWriteS -/
def laws_szWriteS_ac : AC :=
 (.seq (.region 0 [⟨some 4, .mv (.c (.int .i64 0)), none⟩])
 (.seq (.region 0 [⟨some 5, .mv (.t 1), none⟩,
  ⟨some 6, .mv (.t 0), none⟩,
  ⟨some 7, .len false (.t 6), none⟩,
  ⟨some 8, .bin .sub (.t 5) (.t 7), none⟩,
  ⟨some 1, .mv (.t 8), none⟩])
 (.seq (.seq (.region 0 [⟨some 9, .mv (.t 1), none⟩,
  ⟨some 10, .bin .lss (.t 9) (.c (.int .i64 0)), none⟩])
 (.cond (.t 10) (.seq (.region 0 [⟨some 4, .mv (.c (.int .i64 (-1))), none⟩])
 .ret) .skip))
 (.seq (.region 0 [⟨some 11, .mv (.t 1), none⟩,
  ⟨some 4, .mv (.t 11), none⟩])
 .ret))))

theorem laws_szWriteS_eq (E : Env) (a0 : U) (a1 : U) : run E laws_szWriteS_ac [(4, none)] [a0, a1] =
 (U.lenOf false a0).bind fun n1 => (U.bin .sub a1 (.int .i64 (n1 : Int))).bind fun t2 => (U.bin .lss t2 (.int .i64 0)).bind fun t3 => U.asBool t3
 (some (.int .i64 (-1)))
 (some t2) := by kernel_rfl

/-- In the environment E: this function and those that it calls. -/
structure G_laws_szWriteS (E : Env) : Prop where
  is : Is E 23 2 laws_szWriteS_ac [(4, none)]
theorem laws_szWriteS_E {E : Env} (h : G_laws_szWriteS E) (a0 a1 : U) : E 23 [a0, a1] =
 (U.lenOf false a0).bind fun n1 => (U.bin .sub a1 (.int .i64 (n1 : Int))).bind fun t2 => (U.bin .lss t2 (.int .i64 0)).bind fun t3 => U.asBool t3
 (some (.int .i64 (-1)))
 (some t2) := (h.is _ rfl).trans (laws_szWriteS_eq E a0 a1)

end Go.Proofs.Ytfdcdbkblkehcaa.Am
namespace Go.Proofs.Ytfdcdbkblkehcaa.Am
open Go
set_option linter.unusedVariables false
set_option maxRecDepth 100000

/- loop.example/g01924/laws.szTransaction -/
def laws_szTransaction_ac : AC :=
 (.seq (.region 0 [⟨some 2, .box false (.t 0), none⟩,
  ⟨some 4, .mv (.c (.int .i64 0)), none⟩])
 (.seq (.region 0 [⟨some 5, .faddr 7 7 (.t 2), none⟩,
  ⟨some 6, .load false 1 (.t 5), none⟩,
  ⟨some 7, .mv (.t 1), none⟩,
  ⟨some 8, .call false 24 [(.t 6), (.t 7)], none⟩,
  ⟨some 1, .mv (.t 8), none⟩])
 (.seq (.seq (.region 0 [⟨some 9, .mv (.t 1), none⟩,
  ⟨some 10, .bin .lss (.t 9) (.c (.int .i64 0)), none⟩])
 (.cond (.t 10) (.seq (.region 0 [⟨some 4, .mv (.c (.int .i64 (-1))), none⟩])
 .ret) .skip))
 (.seq (.region 0 [⟨some 11, .faddr 8 8 (.t 2), none⟩,
  ⟨some 12, .load false 1 (.t 11), none⟩,
  ⟨some 13, .mv (.t 1), none⟩,
  ⟨some 14, .call false 23 [(.t 12), (.t 13)], none⟩,
  ⟨some 1, .mv (.t 14), none⟩])
 (.seq (.seq (.region 0 [⟨some 15, .mv (.t 1), none⟩,
  ⟨some 16, .bin .lss (.t 15) (.c (.int .i64 0)), none⟩])
 (.cond (.t 16) (.seq (.region 0 [⟨some 4, .mv (.c (.int .i64 (-1))), none⟩])
 .ret) .skip))
 (.seq (.region 0 [⟨some 17, .mv (.t 1), none⟩,
  ⟨some 4, .mv (.t 17), none⟩])
 .ret))))))

theorem laws_szTransaction_eq (E : Env) (a0 : U) (a1 : U) : run E laws_szTransaction_ac [(4, none)] [a0, a1] =
 U.noTup a0 fun x1 => U.asAgg x1 fun us2 => if 7 = sizes (us2.take 7) then (us2[7]?).bind fun e3 => U.asVar false 1 e3 fun e4 => (E 24 [e4, a1]).bind fun t5 => (U.bin .lss t5 (.int .i64 0)).bind fun t6 => U.asBool t6
 (some (.int .i64 (-1)))
 (U.asAgg x1 fun us7 => if 8 = sizes (us7.take 8) then (us7[8]?).bind fun e8 => U.asVar false 1 e8 fun e9 => (E 23 [e9, t5]).bind fun t10 => (U.bin .lss t10 (.int .i64 0)).bind fun t11 => U.asBool t11
 (some (.int .i64 (-1)))
 (some t10) else none) else none := by kernel_rfl

/-- In the environment E: this function and those that it calls. -/
structure G_laws_szTransaction (E : Env) : Prop where
  is : Is E 132 2 laws_szTransaction_ac [(4, none)]
  c_laws_szReadMarkS : G_laws_szReadMarkS E
  c_laws_szWriteS : G_laws_szWriteS E
theorem laws_szTransaction_E {E : Env} (h : G_laws_szTransaction E) (a0 a1 : U) : E 132 [a0, a1] =
 U.noTup a0 fun x1 => U.asAgg x1 fun us2 => if 7 = sizes (us2.take 7) then (us2[7]?).bind fun e3 => U.asVar false 1 e3 fun e4 => (E 24 [e4, a1]).bind fun t5 => (U.bin .lss t5 (.int .i64 0)).bind fun t6 => U.asBool t6
 (some (.int .i64 (-1)))
 (U.asAgg x1 fun us7 => if 8 = sizes (us7.take 8) then (us7[8]?).bind fun e8 => U.asVar false 1 e8 fun e9 => (E 23 [e9, t5]).bind fun t10 => (U.bin .lss t10 (.int .i64 0)).bind fun t11 => U.asBool t11
 (some (.int .i64 (-1)))
 (some t10) else none) else none := (h.is _ rfl).trans (laws_szTransaction_eq E a0 a1)

end Go.Proofs.Ytfdcdbkblkehcaa.Am
namespace Go.Proofs.Ytfdcdbkblkehcaa.Am
open Go
set_option linter.unusedVariables false
set_option maxRecDepth 100000

/- loop.example/g01924/laws.szTransactionS -/
def laws_szTransactionS_b0 : AC :=
 (.seq (.seq (.region 0 [⟨some 12, .mv (.t 5), none⟩,
  ⟨some 13, .mv (.t 0), none⟩,
  ⟨some 14, .len false (.t 13), none⟩,
  ⟨some 15, .bin .lss (.t 12) (.t 14), none⟩])
 (.cond (.t 15) .skip (.exit 0)))
 (.seq (.block 1 (.seq (.region 0 [⟨some 18, .mv (.t 0), none⟩,
  ⟨some 19, .mv (.t 5), none⟩,
  ⟨some 20, .iaddr 9 (.t 18) (.t 19), none⟩,
  ⟨some 21, .load true 9 (.t 20), none⟩,
  ⟨some 22, .mv (.t 1), none⟩,
  ⟨some 23, .call false 132 [(.t 21), (.t 22)], none⟩,
  ⟨some 1, .mv (.t 23), none⟩])
 (.seq (.region 0 [⟨some 24, .mv (.t 1), none⟩,
  ⟨some 25, .bin .lss (.t 24) (.c (.int .i64 0)), none⟩])
 (.cond (.t 25) (.seq (.region 0 [⟨some 4, .mv (.c (.int .i64 (-1))), none⟩])
 .ret) .skip))))
 (.region 0 [⟨some 16, .mv (.t 5), none⟩,
  ⟨some 17, .bin .add (.t 16) (.c (.int .i64 1)), none⟩,
  ⟨some 5, .mv (.t 17), none⟩])))
def laws_szTransactionS_r0 : AC :=
 (.seq (.region 0 [⟨some 26, .mv (.t 1), none⟩,
  ⟨some 4, .mv (.t 26), none⟩])
 .ret)
def laws_szTransactionS_ac : AC :=
 (.seq (.region 0 [⟨some 4, .mv (.c (.int .i64 0)), none⟩])
 (.seq (.region 0 [⟨some 6, .mv (.t 1), none⟩,
  ⟨some 7, .mv (.t 0), none⟩,
  ⟨some 8, .len false (.t 7), none⟩,
  ⟨some 9, .bin .sub (.t 6) (.t 8), none⟩,
  ⟨some 1, .mv (.t 9), none⟩])
 (.seq (.seq (.region 0 [⟨some 10, .mv (.t 1), none⟩,
  ⟨some 11, .bin .lss (.t 10) (.c (.int .i64 0)), none⟩])
 (.cond (.t 11) (.seq (.region 0 [⟨some 4, .mv (.c (.int .i64 (-1))), none⟩])
 .ret) .skip))
 (.seq (.seq (.region 0 [⟨some 5, .mv (.c (.int .i64 0)), none⟩])
 (.block 0 (.loop ⟨[0, 1, 5], [], []⟩ laws_szTransactionS_b0)))
 laws_szTransactionS_r0))))
noncomputable def laws_szTransactionS_l0 (E : Env) (x0 : U) (x1 : U) (x5 : U) : Option U := loopK (roundOf E ⟨[0, 1, 5], [], []⟩ laws_szTransactionS_b0 (blockK 0 (seqK (fun s => exec E laws_szTransactionS_r0 s (finish [(4, none)])) (finish [(4, none)])))) ([.val x0, .val x1, .val x5], [])
theorem laws_szTransactionS_eq (E : Env) (a0 : U) (a1 : U) : run E laws_szTransactionS_ac [(4, none)] [a0, a1] =
 (U.lenOf false a0).bind fun n1 => (U.bin .sub a1 (.int .i64 (n1 : Int))).bind fun t2 => (U.bin .lss t2 (.int .i64 0)).bind fun t3 => U.asBool t3
 (some (.int .i64 (-1)))
 (laws_szTransactionS_l0 E a0 t2 (.int .i64 0)) := by kernel_rfl
theorem laws_szTransactionS_l0_eq (E : Env) (x0 : U) (x1 : U) (x5 : U) : laws_szTransactionS_l0 E x0 x1 x5 =
 (U.lenOf false x0).bind fun n4 => (U.bin .lss x5 (.int .i64 (n4 : Int))).bind fun t5 => U.asBool t5
 (U.asInt x5 fun n6 => U.elemAt 9 x0 n6 fun e7 => U.asVar true 9 e7 fun e8 => (E 132 [e8, x1]).bind fun t9 => (U.bin .lss t9 (.int .i64 0)).bind fun t10 => U.asBool t10
 (some (.int .i64 (-1)))
 ((U.bin .add x5 (.int .i64 1)).bind fun t11 => laws_szTransactionS_l0 E x0 t9 t11))
 (some x1) :=
 (loop_eq E _ _ _ _).trans (by kernel_rfl)

/-- In the environment E: this function and those that it calls. -/
structure G_laws_szTransactionS (E : Env) : Prop where
  is : Is E 131 2 laws_szTransactionS_ac [(4, none)]
  c_laws_szTransaction : G_laws_szTransaction E
theorem laws_szTransactionS_E {E : Env} (h : G_laws_szTransactionS E) (a0 a1 : U) : E 131 [a0, a1] =
 (U.lenOf false a0).bind fun n1 => (U.bin .sub a1 (.int .i64 (n1 : Int))).bind fun t2 => (U.bin .lss t2 (.int .i64 0)).bind fun t3 => U.asBool t3
 (some (.int .i64 (-1)))
 (laws_szTransactionS_l0 E a0 t2 (.int .i64 0)) := (h.is _ rfl).trans (laws_szTransactionS_eq E a0 a1)

end Go.Proofs.Ytfdcdbkblkehcaa.Am
namespace Go.Proofs.Ytfdcdbkblkehcaa.Am
open Go
set_option linter.unusedVariables false
set_option maxRecDepth 100000

/- loop.example/g01924/laws.szLockS -/
def laws_szLockS_ac : AC :=
 (.seq (.region 0 [⟨some 4, .mv (.c (.int .i64 0)), none⟩])
 (.seq (.region 0 [⟨some 5, .mv (.t 1), none⟩,
  ⟨some 6, .mv (.t 0), none⟩,
  ⟨some 7, .len false (.t 6), none⟩,
  ⟨some 8, .bin .sub (.t 5) (.t 7), none⟩,
  ⟨some 1, .mv (.t 8), none⟩])
 (.seq (.seq (.region 0 [⟨some 9, .mv (.t 1), none⟩,
  ⟨some 10, .bin .lss (.t 9) (.c (.int .i64 0)), none⟩])
 (.cond (.t 10) (.seq (.region 0 [⟨some 4, .mv (.c (.int .i64 (-1))), none⟩])
 .ret) .skip))
 (.seq (.region 0 [⟨some 11, .mv (.t 1), none⟩,
  ⟨some 4, .mv (.t 11), none⟩])
 .ret))))

theorem laws_szLockS_eq (E : Env) (a0 : U) (a1 : U) : run E laws_szLockS_ac [(4, none)] [a0, a1] =
 (U.lenOf false a0).bind fun n1 => (U.bin .sub a1 (.int .i64 (n1 : Int))).bind fun t2 => (U.bin .lss t2 (.int .i64 0)).bind fun t3 => U.asBool t3
 (some (.int .i64 (-1)))
 (some t2) := by kernel_rfl

/-- In the environment E: this function and those that it calls. -/
structure G_laws_szLockS (E : Env) : Prop where
  is : Is E 130 2 laws_szLockS_ac [(4, none)]
theorem laws_szLockS_E {E : Env} (h : G_laws_szLockS E) (a0 a1 : U) : E 130 [a0, a1] =
 (U.lenOf false a0).bind fun n1 => (U.bin .sub a1 (.int .i64 (n1 : Int))).bind fun t2 => (U.bin .lss t2 (.int .i64 0)).bind fun t3 => U.asBool t3
 (some (.int .i64 (-1)))
 (some t2) := (h.is _ rfl).trans (laws_szLockS_eq E a0 a1)

end Go.Proofs.Ytfdcdbkblkehcaa.Am
namespace Go.Proofs.Ytfdcdbkblkehcaa.Am
open Go
set_option linter.unusedVariables false
set_option maxRecDepth 100000

/- loop.example/g01924/laws.szWaitS -/
def laws_szWaitS_ac : AC :=
 (.seq (.region 0 [⟨some 4, .mv (.c (.int .i64 0)), none⟩])
 (.seq (.region 0 [⟨some 5, .mv (.t 1), none⟩,
  ⟨some 6, .mv (.t 0), none⟩,
  ⟨some 7, .len false (.t 6), none⟩,
  ⟨some 8, .bin .sub (.t 5) (.t 7), none⟩,
  ⟨some 1, .mv (.t 8), none⟩])
 (.seq (.seq (.region 0 [⟨some 9, .mv (.t 1), none⟩,
  ⟨some 10, .bin .lss (.t 9) (.c (.int .i64 0)), none⟩])
 (.cond (.t 10) (.seq (.region 0 [⟨some 4, .mv (.c (.int .i64 (-1))), none⟩])
 .ret) .skip))
 (.seq (.region 0 [⟨some 11, .mv (.t 1), none⟩,
  ⟨some 4, .mv (.t 11), none⟩])
 .ret))))

theorem laws_szWaitS_eq (E : Env) (a0 : U) (a1 : U) : run E laws_szWaitS_ac [(4, none)] [a0, a1] =
 (U.lenOf false a0).bind fun n1 => (U.bin .sub a1 (.int .i64 (n1 : Int))).bind fun t2 => (U.bin .lss t2 (.int .i64 0)).bind fun t3 => U.asBool t3
 (some (.int .i64 (-1)))
 (some t2) := by kernel_rfl

/-- In the environment E: this function and those that it calls. -/
structure G_laws_szWaitS (E : Env) : Prop where
  is : Is E 129 2 laws_szWaitS_ac [(4, none)]
theorem laws_szWaitS_E {E : Env} (h : G_laws_szWaitS E) (a0 a1 : U) : E 129 [a0, a1] =
 (U.lenOf false a0).bind fun n1 => (U.bin .sub a1 (.int .i64 (n1 : Int))).bind fun t2 => (U.bin .lss t2 (.int .i64 0)).bind fun t3 => U.asBool t3
 (some (.int .i64 (-1)))
 (some t2) := (h.is _ rfl).trans (laws_szWaitS_eq E a0 a1)

end Go.Proofs.Ytfdcdbkblkehcaa.Am
namespace Go.Proofs.Ytfdcdbkblkehcaa.Am
open Go
set_option linter.unusedVariables false
set_option maxRecDepth 100000

/- loop.example/g01924/laws.szEngine -/
def laws_szEngine_ac : AC :=
 (.seq (.region 0 [⟨some 2, .box false (.t 0), none⟩,
  ⟨some 4, .mv (.c (.int .i64 0)), none⟩])
 (.seq (.region 0 [⟨some 5, .faddr 1 1 (.t 2), none⟩,
  ⟨some 6, .load true 1 (.t 5), none⟩,
  ⟨some 7, .mv (.t 1), none⟩,
  ⟨some 8, .call false 99 [(.t 6), (.t 7)], none⟩,
  ⟨some 1, .mv (.t 8), none⟩])
 (.seq (.seq (.region 0 [⟨some 9, .mv (.t 1), none⟩,
  ⟨some 10, .bin .lss (.t 9) (.c (.int .i64 0)), none⟩])
 (.cond (.t 10) (.seq (.region 0 [⟨some 4, .mv (.c (.int .i64 (-1))), none⟩])
 .ret) .skip))
 (.seq (.region 0 [⟨some 11, .faddr 2 2 (.t 2), none⟩,
  ⟨some 12, .load false 1 (.t 11), none⟩,
  ⟨some 13, .mv (.t 1), none⟩,
  ⟨some 14, .call false 131 [(.t 12), (.t 13)], none⟩,
  ⟨some 1, .mv (.t 14), none⟩])
 (.seq (.seq (.region 0 [⟨some 15, .mv (.t 1), none⟩,
  ⟨some 16, .bin .lss (.t 15) (.c (.int .i64 0)), none⟩])
 (.cond (.t 16) (.seq (.region 0 [⟨some 4, .mv (.c (.int .i64 (-1))), none⟩])
 .ret) .skip))
 (.seq (.region 0 [⟨some 17, .faddr 3 3 (.t 2), none⟩,
  ⟨some 18, .load false 1 (.t 17), none⟩,
  ⟨some 19, .mv (.t 1), none⟩,
  ⟨some 20, .call false 130 [(.t 18), (.t 19)], none⟩,
  ⟨some 1, .mv (.t 20), none⟩])
 (.seq (.seq (.region 0 [⟨some 21, .mv (.t 1), none⟩,
  ⟨some 22, .bin .lss (.t 21) (.c (.int .i64 0)), none⟩])
 (.cond (.t 22) (.seq (.region 0 [⟨some 4, .mv (.c (.int .i64 (-1))), none⟩])
 .ret) .skip))
 (.seq (.region 0 [⟨some 23, .faddr 4 4 (.t 2), none⟩,
  ⟨some 24, .load false 1 (.t 23), none⟩,
  ⟨some 25, .mv (.t 1), none⟩,
  ⟨some 26, .call false 129 [(.t 24), (.t 25)], none⟩,
  ⟨some 1, .mv (.t 26), none⟩])
 (.seq (.seq (.region 0 [⟨some 27, .mv (.t 1), none⟩,
  ⟨some 28, .bin .lss (.t 27) (.c (.int .i64 0)), none⟩])
 (.cond (.t 28) (.seq (.region 0 [⟨some 4, .mv (.c (.int .i64 (-1))), none⟩])
 .ret) .skip))
 (.seq (.region 0 [⟨some 29, .mv (.t 1), none⟩,
  ⟨some 4, .mv (.t 29), none⟩])
 .ret))))))))))

theorem laws_szEngine_eq (E : Env) (a0 : U) (a1 : U) : run E laws_szEngine_ac [(4, none)] [a0, a1] =
 U.noTup a0 fun x1 => U.asAgg x1 fun us2 => if 1 = sizes (us2.take 1) then (us2[1]?).bind fun e3 => U.asVar true 1 e3 fun e4 => (E 99 [e4, a1]).bind fun t5 => (U.bin .lss t5 (.int .i64 0)).bind fun t6 => U.asBool t6
 (some (.int .i64 (-1)))
 (U.asAgg x1 fun us7 => if 2 = sizes (us7.take 2) then (us7[2]?).bind fun e8 => U.asVar false 1 e8 fun e9 => (E 131 [e9, t5]).bind fun t10 => (U.bin .lss t10 (.int .i64 0)).bind fun t11 => U.asBool t11
 (some (.int .i64 (-1)))
 (U.asAgg x1 fun us12 => if 3 = sizes (us12.take 3) then (us12[3]?).bind fun e13 => U.asVar false 1 e13 fun e14 => (E 130 [e14, t10]).bind fun t15 => (U.bin .lss t15 (.int .i64 0)).bind fun t16 => U.asBool t16
 (some (.int .i64 (-1)))
 (U.asAgg x1 fun us17 => if 4 = sizes (us17.take 4) then (us17[4]?).bind fun e18 => U.asVar false 1 e18 fun e19 => (E 129 [e19, t15]).bind fun t20 => (U.bin .lss t20 (.int .i64 0)).bind fun t21 => U.asBool t21
 (some (.int .i64 (-1)))
 (some t20) else none) else none) else none) else none := by kernel_rfl

/-- In the environment E: this function and those that it calls. -/
structure G_laws_szEngine (E : Env) : Prop where
  is : Is E 128 2 laws_szEngine_ac [(4, none)]
  c_laws_szStore : G_laws_szStore E
  c_laws_szTransactionS : G_laws_szTransactionS E
  c_laws_szLockS : G_laws_szLockS E
  c_laws_szWaitS : G_laws_szWaitS E
theorem laws_szEngine_E {E : Env} (h : G_laws_szEngine E) (a0 a1 : U) : E 128 [a0, a1] =
 U.noTup a0 fun x1 => U.asAgg x1 fun us2 => if 1 = sizes (us2.take 1) then (us2[1]?).bind fun e3 => U.asVar true 1 e3 fun e4 => (E 99 [e4, a1]).bind fun t5 => (U.bin .lss t5 (.int .i64 0)).bind fun t6 => U.asBool t6
 (some (.int .i64 (-1)))
 (U.asAgg x1 fun us7 => if 2 = sizes (us7.take 2) then (us7[2]?).bind fun e8 => U.asVar false 1 e8 fun e9 => (E 131 [e9, t5]).bind fun t10 => (U.bin .lss t10 (.int .i64 0)).bind fun t11 => U.asBool t11
 (some (.int .i64 (-1)))
 (U.asAgg x1 fun us12 => if 3 = sizes (us12.take 3) then (us12[3]?).bind fun e13 => U.asVar false 1 e13 fun e14 => (E 130 [e14, t10]).bind fun t15 => (U.bin .lss t15 (.int .i64 0)).bind fun t16 => U.asBool t16
 (some (.int .i64 (-1)))
 (U.asAgg x1 fun us17 => if 4 = sizes (us17.take 4) then (us17[4]?).bind fun e18 => U.asVar false 1 e18 fun e19 => (E 129 [e19, t15]).bind fun t20 => (U.bin .lss t20 (.int .i64 0)).bind fun t21 => U.asBool t21
 (some (.int .i64 (-1)))
 (some t20) else none) else none) else none) else none := (h.is _ rfl).trans (laws_szEngine_eq E a0 a1)

end Go.Proofs.Ytfdcdbkblkehcaa.Am
namespace Go.Proofs.Ytfdcdbkblkehcaa.Am
open Go
set_option linter.unusedVariables false
set_option maxRecDepth 100000

/- loop.example/g01924/laws.szNode -/
def laws_szNode_ac : AC :=
 (.seq (.region 0 [⟨some 2, .box false (.t 0), none⟩,
  ⟨some 4, .mv (.c (.int .i64 0)), none⟩])
 (.seq (.region 0 [⟨some 5, .faddr 0 0 (.t 2), none⟩,
  ⟨some 6, .load true 6 (.t 5), none⟩,
  ⟨some 7, .mv (.t 1), none⟩,
  ⟨some 8, .call false 128 [(.t 6), (.t 7)], none⟩,
  ⟨some 1, .mv (.t 8), none⟩])
 (.seq (.seq (.region 0 [⟨some 9, .mv (.t 1), none⟩,
  ⟨some 10, .bin .lss (.t 9) (.c (.int .i64 0)), none⟩])
 (.cond (.t 10) (.seq (.region 0 [⟨some 4, .mv (.c (.int .i64 (-1))), none⟩])
 .ret) .skip))
 (.seq (.region 0 [⟨some 11, .mv (.t 1), none⟩,
  ⟨some 12, .faddr 1 6 (.t 2), none⟩,
  ⟨some 13, .load false 1 (.t 12), none⟩,
  ⟨some 14, .len true (.t 13), none⟩,
  ⟨some 15, .bin .sub (.t 11) (.t 14), none⟩,
  ⟨some 1, .mv (.t 15), none⟩])
 (.seq (.seq (.region 0 [⟨some 16, .mv (.t 1), none⟩,
  ⟨some 17, .bin .lss (.t 16) (.c (.int .i64 0)), none⟩])
 (.cond (.t 17) (.seq (.region 0 [⟨some 4, .mv (.c (.int .i64 (-1))), none⟩])
 .ret) .skip))
 (.seq (.region 0 [⟨some 18, .mv (.t 1), none⟩,
  ⟨some 4, .mv (.t 18), none⟩])
 .ret))))))

theorem laws_szNode_eq (E : Env) (a0 : U) (a1 : U) : run E laws_szNode_ac [(4, none)] [a0, a1] =
 U.noTup a0 fun x1 => U.asAgg x1 fun us2 => if 0 = sizes (us2.take 0) then (us2[0]?).bind fun e3 => U.asVar true 6 e3 fun e4 => (E 128 [e4, a1]).bind fun t5 => (U.bin .lss t5 (.int .i64 0)).bind fun t6 => U.asBool t6
 (some (.int .i64 (-1)))
 (U.asAgg x1 fun us7 => if 6 = sizes (us7.take 1) then (us7[1]?).bind fun e8 => U.asVar false 1 e8 fun e9 => (U.lenOf true e9).bind fun n10 => (U.bin .sub t5 (.int .i64 (n10 : Int))).bind fun t11 => (U.bin .lss t11 (.int .i64 0)).bind fun t12 => U.asBool t12
 (some (.int .i64 (-1)))
 (some t11) else none) else none := by kernel_rfl

/-- In the environment E: this function and those that it calls. -/
structure G_laws_szNode (E : Env) : Prop where
  is : Is E 263 2 laws_szNode_ac [(4, none)]
  c_laws_szEngine : G_laws_szEngine E
theorem laws_szNode_E {E : Env} (h : G_laws_szNode E) (a0 a1 : U) : E 263 [a0, a1] =
 U.noTup a0 fun x1 => U.asAgg x1 fun us2 => if 0 = sizes (us2.take 0) then (us2[0]?).bind fun e3 => U.asVar true 6 e3 fun e4 => (E 128 [e4, a1]).bind fun t5 => (U.bin .lss t5 (.int .i64 0)).bind fun t6 => U.asBool t6
 (some (.int .i64 (-1)))
 (U.asAgg x1 fun us7 => if 6 = sizes (us7.take 1) then (us7[1]?).bind fun e8 => U.asVar false 1 e8 fun e9 => (U.lenOf true e9).bind fun n10 => (U.bin .sub t5 (.int .i64 (n10 : Int))).bind fun t11 => (U.bin .lss t11 (.int .i64 0)).bind fun t12 => U.asBool t12
 (some (.int .i64 (-1)))
 (some t11) else none) else none := (h.is _ rfl).trans (laws_szNode_eq E a0 a1)

end Go.Proofs.Ytfdcdbkblkehcaa.Am
namespace Go.Proofs.Ytfdcdbkblkehcaa.Am
open Go
set_option linter.unusedVariables false
set_option maxRecDepth 100000

/- loop.example/g01924/spec.EqualChains -/
def spec_EqualChains_b0 : AC :=
 (.seq (.seq (.region 0 [⟨some 11, .mv (.t 5), none⟩,
  ⟨some 12, .mv (.t 0), none⟩,
  ⟨some 13, .len false (.t 12), none⟩,
  ⟨some 14, .bin .lss (.t 11) (.t 13), none⟩])
 (.cond (.t 14) .skip (.exit 0)))
 (.seq (.block 1 (.seq (.region 9 [⟨some 17, .mv (.t 0), none⟩,
  ⟨some 18, .mv (.t 5), none⟩,
  ⟨some 19, .iaddr 5 (.t 17) (.t 18), none⟩,
  ⟨some 20, .load true 5 (.t 19), none⟩,
  ⟨some 21, .mv (.t 1), none⟩,
  ⟨some 22, .mv (.t 5), none⟩,
  ⟨some 23, .iaddr 5 (.t 21) (.t 22), none⟩,
  ⟨some 24, .load true 5 (.t 23), none⟩,
  ⟨some 25, .eqv true 7 (.t 20) (.t 24), none⟩])
 (.cond (.t 25) (.seq (.region 0 [⟨some 4, .mv (.c (.bool false)), none⟩])
 .ret) .skip)))
 (.region 0 [⟨some 15, .mv (.t 5), none⟩,
  ⟨some 16, .bin .add (.t 15) (.c (.int .i64 1)), none⟩,
  ⟨some 5, .mv (.t 16), none⟩])))
def spec_EqualChains_r0 : AC :=
 (.seq (.region 0 [⟨some 4, .mv (.c (.bool true)), none⟩])
 .ret)
def spec_EqualChains_ac : AC :=
 (.seq (.region 0 [⟨some 4, .mv (.c (.bool false)), none⟩])
 (.seq (.seq (.region 0 [⟨some 6, .mv (.t 0), none⟩,
  ⟨some 7, .len false (.t 6), none⟩,
  ⟨some 8, .mv (.t 1), none⟩,
  ⟨some 9, .len false (.t 8), none⟩,
  ⟨some 10, .bin .neq (.t 7) (.t 9), none⟩])
 (.cond (.t 10) (.seq (.region 0 [⟨some 4, .mv (.c (.bool false)), none⟩])
 .ret) .skip))
 (.seq (.seq (.region 0 [⟨some 5, .mv (.c (.int .i64 0)), none⟩])
 (.block 0 (.loop ⟨[0, 1, 5], [], []⟩ spec_EqualChains_b0)))
 spec_EqualChains_r0)))
noncomputable def spec_EqualChains_l0 (E : Env) (x0 : U) (x1 : U) (x5 : U) : Option U := loopK (roundOf E ⟨[0, 1, 5], [], []⟩ spec_EqualChains_b0 (blockK 0 (seqK (fun s => exec E spec_EqualChains_r0 s (finish [(4, none)])) (finish [(4, none)])))) ([.val x0, .val x1, .val x5], [])
theorem spec_EqualChains_eq (E : Env) (a0 : U) (a1 : U) : run E spec_EqualChains_ac [(4, none)] [a0, a1] =
 (U.lenOf false a0).bind fun n1 => (U.lenOf false a1).bind fun n2 => (U.bin .neq (.int .i64 (n1 : Int)) (.int .i64 (n2 : Int))).bind fun t3 => U.asBool t3
 (some (.bool false))
 (spec_EqualChains_l0 E a0 a1 (.int .i64 0)) := by kernel_rfl
theorem spec_EqualChains_l0_eq (E : Env) (x0 : U) (x1 : U) (x5 : U) : spec_EqualChains_l0 E x0 x1 x5 =
 (U.lenOf false x0).bind fun n4 => (U.bin .lss x5 (.int .i64 (n4 : Int))).bind fun t5 => U.asBool t5
 (U.asInt x5 fun n6 => U.elemAt 5 x0 n6 fun e7 => U.asVar true 5 e7 fun e8 => U.asInt x5 fun n9 => U.elemAt 5 x1 n9 fun e10 => U.asVar true 5 e10 fun e11 => (U.eqv 7 e8 e11).bind fun q12 => U.asBool (.bool (!q12))
 (some (.bool false))
 ((U.bin .add x5 (.int .i64 1)).bind fun t13 => spec_EqualChains_l0 E x0 x1 t13))
 (some (.bool true)) :=
 (loop_eq E _ _ _ _).trans (by kernel_rfl)

/-- In the environment E: this function and those that it calls. -/
structure G_spec_EqualChains (E : Env) : Prop where
  is : Is E 266 2 spec_EqualChains_ac [(4, none)]
theorem spec_EqualChains_E {E : Env} (h : G_spec_EqualChains E) (a0 a1 : U) : E 266 [a0, a1] =
 (U.lenOf false a0).bind fun n1 => (U.lenOf false a1).bind fun n2 => (U.bin .neq (.int .i64 (n1 : Int)) (.int .i64 (n2 : Int))).bind fun t3 => U.asBool t3
 (some (.bool false))
 (spec_EqualChains_l0 E a0 a1 (.int .i64 0)) := (h.is _ rfl).trans (spec_EqualChains_eq E a0 a1)

end Go.Proofs.Ytfdcdbkblkehcaa.Am
namespace Go.Proofs.Ytfdcdbkblkehcaa.Am
open Go
set_option linter.unusedVariables false
set_option maxRecDepth 100000

/- loop.example/g01924/spec.EqualStores -/
def spec_EqualStores_b0 : AC :=
 (.seq (.seq (.region 0 [⟨some 13, .mv (.t 5), none⟩,
  ⟨some 14, .faddr 0 0 (.t 2), none⟩,
  ⟨some 15, .load false 1 (.t 14), none⟩,
  ⟨some 16, .len false (.t 15), none⟩,
  ⟨some 17, .bin .lss (.t 13) (.t 16), none⟩])
 (.cond (.t 17) .skip (.exit 0)))
 (.seq (.block 1 (.seq (.region 12 [⟨some 20, .faddr 0 0 (.t 2), none⟩,
  ⟨some 21, .load false 1 (.t 20), none⟩,
  ⟨some 22, .mv (.t 5), none⟩,
  ⟨some 23, .iaddr 1 (.t 21) (.t 22), none⟩,
  ⟨some 24, .load false 1 (.t 23), none⟩,
  ⟨some 25, .faddr 0 0 (.t 3), none⟩,
  ⟨some 26, .load false 1 (.t 25), none⟩,
  ⟨some 27, .mv (.t 5), none⟩,
  ⟨some 28, .iaddr 1 (.t 26) (.t 27), none⟩,
  ⟨some 29, .load false 1 (.t 28), none⟩,
  ⟨some 30, .call false 266 [(.t 24), (.t 29)], none⟩,
  ⟨some 31, .un .not (.t 30), none⟩])
 (.cond (.t 31) (.seq (.region 0 [⟨some 4, .mv (.c (.bool false)), none⟩])
 .ret) .skip)))
 (.region 0 [⟨some 18, .mv (.t 5), none⟩,
  ⟨some 19, .bin .add (.t 18) (.c (.int .i64 1)), none⟩,
  ⟨some 5, .mv (.t 19), none⟩])))
def spec_EqualStores_r0 : AC :=
 (.seq (.region 0 [⟨some 4, .mv (.c (.bool true)), none⟩])
 .ret)
def spec_EqualStores_ac : AC :=
 (.seq (.region 0 [⟨some 2, .box false (.t 0), none⟩,
  ⟨some 3, .box false (.t 1), none⟩,
  ⟨some 4, .mv (.c (.bool false)), none⟩])
 (.seq (.seq (.region 0 [⟨some 6, .faddr 0 0 (.t 2), none⟩,
  ⟨some 7, .load false 1 (.t 6), none⟩,
  ⟨some 8, .len false (.t 7), none⟩,
  ⟨some 9, .faddr 0 0 (.t 3), none⟩,
  ⟨some 10, .load false 1 (.t 9), none⟩,
  ⟨some 11, .len false (.t 10), none⟩,
  ⟨some 12, .bin .neq (.t 8) (.t 11), none⟩])
 (.cond (.t 12) (.seq (.region 0 [⟨some 4, .mv (.c (.bool false)), none⟩])
 .ret) .skip))
 (.seq (.seq (.region 0 [⟨some 5, .mv (.c (.int .i64 0)), none⟩])
 (.block 0 (.loop ⟨[2, 3, 5], [], [2, 3]⟩ spec_EqualStores_b0)))
 spec_EqualStores_r0)))
noncomputable def spec_EqualStores_l0 (E : Env) (x5 : U) (b2 : U) (b3 : U) : Option U := loopK (roundOf E ⟨[2, 3, 5], [], [2, 3]⟩ spec_EqualStores_b0 (blockK 0 (seqK (fun s => exec E spec_EqualStores_r0 s (finish [(4, none)])) (finish [(4, none)])))) ([.ptr 2 [], .ptr 3 [], .val x5], [.box (.val b2), .box (.val b3)])
theorem spec_EqualStores_eq (E : Env) (a0 : U) (a1 : U) : run E spec_EqualStores_ac [(4, none)] [a0, a1] =
 U.noTup a0 fun x1 => U.noTup a1 fun x2 => U.asAgg x1 fun us3 => if 0 = sizes (us3.take 0) then (us3[0]?).bind fun e4 => U.asVar false 1 e4 fun e5 => (U.lenOf false e5).bind fun n6 => U.asAgg x2 fun us7 => if 0 = sizes (us7.take 0) then (us7[0]?).bind fun e8 => U.asVar false 1 e8 fun e9 => (U.lenOf false e9).bind fun n10 => (U.bin .neq (.int .i64 (n6 : Int)) (.int .i64 (n10 : Int))).bind fun t11 => U.asBool t11
 (some (.bool false))
 (spec_EqualStores_l0 E (.int .i64 0) x1 x2) else none else none := by kernel_rfl
theorem spec_EqualStores_l0_eq (E : Env) (x5 : U) (b2 : U) (b3 : U) : spec_EqualStores_l0 E x5 b2 b3 =
 U.asAgg b2 fun us12 => if 0 = sizes (us12.take 0) then (us12[0]?).bind fun e13 => U.asVar false 1 e13 fun e14 => (U.lenOf false e14).bind fun n15 => (U.bin .lss x5 (.int .i64 (n15 : Int))).bind fun t16 => U.asBool t16
 (U.asAgg b2 fun us17 => if 0 = sizes (us17.take 0) then (us17[0]?).bind fun e18 => U.asVar false 1 e18 fun e19 => U.asInt x5 fun n20 => U.elemAt 1 e19 n20 fun e21 => U.asVar false 1 e21 fun e22 => U.asAgg b3 fun us23 => if 0 = sizes (us23.take 0) then (us23[0]?).bind fun e24 => U.asVar false 1 e24 fun e25 => U.asInt x5 fun n26 => U.elemAt 1 e25 n26 fun e27 => U.asVar false 1 e27 fun e28 => (E 266 [e22, e28]).bind fun t29 => (U.un .not t29).bind fun t30 => U.asBool t30
 (some (.bool false))
 ((U.bin .add x5 (.int .i64 1)).bind fun t31 => spec_EqualStores_l0 E t31 b2 b3) else none else none)
 (some (.bool true)) else none :=
 (loop_eq E _ _ _ _).trans (by kernel_rfl)

/-- In the environment E: this function and those that it calls. -/
structure G_spec_EqualStores (E : Env) : Prop where
  is : Is E 265 2 spec_EqualStores_ac [(4, none)]
  c_spec_EqualChains : G_spec_EqualChains E
theorem spec_EqualStores_E {E : Env} (h : G_spec_EqualStores E) (a0 a1 : U) : E 265 [a0, a1] =
 U.noTup a0 fun x1 => U.noTup a1 fun x2 => U.asAgg x1 fun us3 => if 0 = sizes (us3.take 0) then (us3[0]?).bind fun e4 => U.asVar false 1 e4 fun e5 => (U.lenOf false e5).bind fun n6 => U.asAgg x2 fun us7 => if 0 = sizes (us7.take 0) then (us7[0]?).bind fun e8 => U.asVar false 1 e8 fun e9 => (U.lenOf false e9).bind fun n10 => (U.bin .neq (.int .i64 (n6 : Int)) (.int .i64 (n10 : Int))).bind fun t11 => U.asBool t11
 (some (.bool false))
 (spec_EqualStores_l0 E (.int .i64 0) x1 x2) else none else none := (h.is _ rfl).trans (spec_EqualStores_eq E a0 a1)

end Go.Proofs.Ytfdcdbkblkehcaa.Am
namespace Go.Proofs.Ytfdcdbkblkehcaa.Am
open Go
set_option linter.unusedVariables false
set_option maxRecDepth 100000

/- loop.example/g01924/spec.EqualTransactions -/
def spec_EqualTransactions_b1 : AC :=
 (.seq (.seq (.region 0 [⟨some 72, .mv (.t 5), none⟩,
  ⟨some 73, .faddr 7 7 (.t 2), none⟩,
  ⟨some 74, .load false 1 (.t 73), none⟩,
  ⟨some 75, .len false (.t 74), none⟩,
  ⟨some 76, .bin .lss (.t 72) (.t 75), none⟩])
 (.cond (.t 76) .skip (.exit 0)))
 (.seq (.block 1 (.seq (.region 11 [⟨some 79, .faddr 7 7 (.t 2), none⟩,
  ⟨some 80, .load false 1 (.t 79), none⟩,
  ⟨some 81, .mv (.t 5), none⟩,
  ⟨some 82, .iaddr 2 (.t 80) (.t 81), none⟩,
  ⟨some 83, .load true 2 (.t 82), none⟩,
  ⟨some 84, .faddr 7 7 (.t 3), none⟩,
  ⟨some 85, .load false 1 (.t 84), none⟩,
  ⟨some 86, .mv (.t 5), none⟩,
  ⟨some 87, .iaddr 2 (.t 85) (.t 86), none⟩,
  ⟨some 88, .load true 2 (.t 87), none⟩,
  ⟨some 89, .eqv true 4 (.t 83) (.t 88), none⟩])
 (.cond (.t 89) (.seq (.region 0 [⟨some 4, .mv (.c (.bool false)), none⟩])
 .ret) .skip)))
 (.region 0 [⟨some 77, .mv (.t 5), none⟩,
  ⟨some 78, .bin .add (.t 77) (.c (.int .i64 1)), none⟩,
  ⟨some 5, .mv (.t 78), none⟩])))
def spec_EqualTransactions_b0 : AC :=
 (.seq (.seq (.region 0 [⟨some 90, .mv (.t 6), none⟩,
  ⟨some 91, .faddr 8 8 (.t 2), none⟩,
  ⟨some 92, .load false 1 (.t 91), none⟩,
  ⟨some 93, .len false (.t 92), none⟩,
  ⟨some 94, .bin .lss (.t 90) (.t 93), none⟩])
 (.cond (.t 94) .skip (.exit 2)))
 (.seq (.block 3 (.seq (.region 11 [⟨some 97, .faddr 8 8 (.t 2), none⟩,
  ⟨some 98, .load false 1 (.t 97), none⟩,
  ⟨some 99, .mv (.t 6), none⟩,
  ⟨some 100, .iaddr 2 (.t 98) (.t 99), none⟩,
  ⟨some 101, .load true 2 (.t 100), none⟩,
  ⟨some 102, .faddr 8 8 (.t 3), none⟩,
  ⟨some 103, .load false 1 (.t 102), none⟩,
  ⟨some 104, .mv (.t 6), none⟩,
  ⟨some 105, .iaddr 2 (.t 103) (.t 104), none⟩,
  ⟨some 106, .load true 2 (.t 105), none⟩,
  ⟨some 107, .eqv true 4 (.t 101) (.t 106), none⟩])
 (.cond (.t 107) (.seq (.region 0 [⟨some 4, .mv (.c (.bool false)), none⟩])
 .ret) .skip)))
 (.region 0 [⟨some 95, .mv (.t 6), none⟩,
  ⟨some 96, .bin .add (.t 95) (.c (.int .i64 1)), none⟩,
  ⟨some 6, .mv (.t 96), none⟩])))
def spec_EqualTransactions_r0 : AC :=
 (.seq (.region 0 [⟨some 4, .mv (.c (.bool true)), none⟩])
 .ret)
def spec_EqualTransactions_r1 : AC :=
 (.seq (.seq (.region 0 [⟨some 6, .mv (.c (.int .i64 0)), none⟩])
 (.block 2 (.loop ⟨[2, 3, 6], [], [2, 3]⟩ spec_EqualTransactions_b0)))
 spec_EqualTransactions_r0)
def spec_EqualTransactions_ac : AC :=
 (.seq (.region 0 [⟨some 2, .box false (.t 0), none⟩,
  ⟨some 3, .box false (.t 1), none⟩,
  ⟨some 4, .mv (.c (.bool false)), none⟩])
 (.seq (.seq (.region 0 [⟨some 7, .faddr 0 0 (.t 2), none⟩,
  ⟨some 8, .load false 1 (.t 7), none⟩,
  ⟨some 9, .faddr 0 0 (.t 3), none⟩,
  ⟨some 10, .load false 1 (.t 9), none⟩,
  ⟨some 11, .bin .neq (.t 8) (.t 10), none⟩,
  ⟨some 12, .mv (.t 11), none⟩,
  ⟨some 13, .faddr 1 1 (.t 2), some (12, false)⟩,
  ⟨some 14, .load false 1 (.t 13), some (12, false)⟩,
  ⟨some 15, .faddr 1 1 (.t 3), some (12, false)⟩,
  ⟨some 16, .load false 1 (.t 15), some (12, false)⟩,
  ⟨some 17, .bin .neq (.t 14) (.t 16), some (12, false)⟩,
  ⟨some 18, .pick (.t 12) (.c (.bool true)) (.t 17), none⟩,
  ⟨some 19, .mv (.t 18), none⟩,
  ⟨some 20, .faddr 2 2 (.t 2), some (19, false)⟩,
  ⟨some 21, .load false 1 (.t 20), some (19, false)⟩,
  ⟨some 22, .faddr 2 2 (.t 3), some (19, false)⟩,
  ⟨some 23, .load false 1 (.t 22), some (19, false)⟩,
  ⟨some 24, .bin .neq (.t 21) (.t 23), some (19, false)⟩,
  ⟨some 25, .pick (.t 19) (.c (.bool true)) (.t 24), none⟩,
  ⟨some 26, .mv (.t 25), none⟩,
  ⟨some 27, .faddr 3 3 (.t 2), some (26, false)⟩,
  ⟨some 28, .load false 1 (.t 27), some (26, false)⟩,
  ⟨some 29, .faddr 3 3 (.t 3), some (26, false)⟩,
  ⟨some 30, .load false 1 (.t 29), some (26, false)⟩,
  ⟨some 31, .bin .neq (.t 28) (.t 30), some (26, false)⟩,
  ⟨some 32, .pick (.t 26) (.c (.bool true)) (.t 31), none⟩,
  ⟨some 33, .mv (.t 32), none⟩,
  ⟨some 34, .faddr 4 4 (.t 2), some (33, false)⟩,
  ⟨some 35, .load false 1 (.t 34), some (33, false)⟩,
  ⟨some 36, .faddr 4 4 (.t 3), some (33, false)⟩,
  ⟨some 37, .load false 1 (.t 36), some (33, false)⟩,
  ⟨some 38, .bin .neq (.t 35) (.t 37), some (33, false)⟩,
  ⟨some 39, .pick (.t 33) (.c (.bool true)) (.t 38), none⟩,
  ⟨some 40, .mv (.t 39), none⟩,
  ⟨some 41, .faddr 5 5 (.t 2), some (40, false)⟩,
  ⟨some 42, .load false 1 (.t 41), some (40, false)⟩,
  ⟨some 43, .faddr 5 5 (.t 3), some (40, false)⟩,
  ⟨some 44, .load false 1 (.t 43), some (40, false)⟩,
  ⟨some 45, .bin .neq (.t 42) (.t 44), some (40, false)⟩,
  ⟨some 46, .pick (.t 40) (.c (.bool true)) (.t 45), none⟩,
  ⟨some 47, .mv (.t 46), none⟩,
  ⟨some 48, .faddr 6 6 (.t 2), some (47, false)⟩,
  ⟨some 49, .load false 1 (.t 48), some (47, false)⟩,
  ⟨some 50, .faddr 6 6 (.t 3), some (47, false)⟩,
  ⟨some 51, .load false 1 (.t 50), some (47, false)⟩,
  ⟨some 52, .bin .neq (.t 49) (.t 51), some (47, false)⟩,
  ⟨some 53, .pick (.t 47) (.c (.bool true)) (.t 52), none⟩,
  ⟨some 54, .mv (.t 53), none⟩,
  ⟨some 55, .faddr 7 7 (.t 2), some (54, false)⟩,
  ⟨some 56, .load false 1 (.t 55), some (54, false)⟩,
  ⟨some 57, .len false (.t 56), some (54, false)⟩,
  ⟨some 58, .faddr 7 7 (.t 3), some (54, false)⟩,
  ⟨some 59, .load false 1 (.t 58), some (54, false)⟩,
  ⟨some 60, .len false (.t 59), some (54, false)⟩,
  ⟨some 61, .bin .neq (.t 57) (.t 60), some (54, false)⟩,
  ⟨some 62, .pick (.t 54) (.c (.bool true)) (.t 61), none⟩,
  ⟨some 63, .mv (.t 62), none⟩,
  ⟨some 64, .faddr 8 8 (.t 2), some (63, false)⟩,
  ⟨some 65, .load false 1 (.t 64), some (63, false)⟩,
  ⟨some 66, .len false (.t 65), some (63, false)⟩,
  ⟨some 67, .faddr 8 8 (.t 3), some (63, false)⟩,
  ⟨some 68, .load false 1 (.t 67), some (63, false)⟩,
  ⟨some 69, .len false (.t 68), some (63, false)⟩,
  ⟨some 70, .bin .neq (.t 66) (.t 69), some (63, false)⟩,
  ⟨some 71, .pick (.t 63) (.c (.bool true)) (.t 70), none⟩])
 (.cond (.t 71) (.seq (.region 0 [⟨some 4, .mv (.c (.bool false)), none⟩])
 .ret) .skip))
 (.seq (.seq (.region 0 [⟨some 5, .mv (.c (.int .i64 0)), none⟩])
 (.block 0 (.loop ⟨[2, 3, 5], [], [2, 3]⟩ spec_EqualTransactions_b1)))
 spec_EqualTransactions_r1)))
noncomputable def spec_EqualTransactions_l1 (E : Env) (x5 : U) (b2 : U) (b3 : U) : Option U := loopK (roundOf E ⟨[2, 3, 5], [], [2, 3]⟩ spec_EqualTransactions_b1 (blockK 0 (seqK (fun s => exec E spec_EqualTransactions_r1 s (finish [(4, none)])) (finish [(4, none)])))) ([.ptr 2 [], .ptr 3 [], .val x5], [.box (.val b2), .box (.val b3)])
noncomputable def spec_EqualTransactions_l0 (E : Env) (x6 : U) (b2 : U) (b3 : U) : Option U := loopK (roundOf E ⟨[2, 3, 6], [], [2, 3]⟩ spec_EqualTransactions_b0 (blockK 2 (seqK (fun s => exec E spec_EqualTransactions_r0 s (finish [(4, none)])) (finish [(4, none)])))) ([.ptr 2 [], .ptr 3 [], .val x6], [.box (.val b2), .box (.val b3)])
theorem spec_EqualTransactions_eq (E : Env) (a0 : U) (a1 : U) : run E spec_EqualTransactions_ac [(4, none)] [a0, a1] =
 U.noTup a0 fun x1 => U.noTup a1 fun x2 => U.asAgg x1 fun us3 => if 0 = sizes (us3.take 0) then (us3[0]?).bind fun e4 => U.asVar false 1 e4 fun e5 => U.asAgg x2 fun us6 => if 0 = sizes (us6.take 0) then (us6[0]?).bind fun e7 => U.asVar false 1 e7 fun e8 => (U.bin .neq e5 e8).bind fun t9 => U.asBool t9
 (some (.bool false))
 (U.asAgg x1 fun us10 => if 1 = sizes (us10.take 1) then (us10[1]?).bind fun e11 => U.asVar false 1 e11 fun e12 => U.asAgg x2 fun us13 => if 1 = sizes (us13.take 1) then (us13[1]?).bind fun e14 => U.asVar false 1 e14 fun e15 => (U.bin .neq e12 e15).bind fun t16 => U.asBool t16
 (some (.bool false))
 (U.asAgg x1 fun us17 => if 2 = sizes (us17.take 2) then (us17[2]?).bind fun e18 => U.asVar false 1 e18 fun e19 => U.asAgg x2 fun us20 => if 2 = sizes (us20.take 2) then (us20[2]?).bind fun e21 => U.asVar false 1 e21 fun e22 => (U.bin .neq e19 e22).bind fun t23 => U.asBool t23
 (some (.bool false))
 (U.asAgg x1 fun us24 => if 3 = sizes (us24.take 3) then (us24[3]?).bind fun e25 => U.asVar false 1 e25 fun e26 => U.asAgg x2 fun us27 => if 3 = sizes (us27.take 3) then (us27[3]?).bind fun e28 => U.asVar false 1 e28 fun e29 => (U.bin .neq e26 e29).bind fun t30 => U.asBool t30
 (some (.bool false))
 (U.asAgg x1 fun us31 => if 4 = sizes (us31.take 4) then (us31[4]?).bind fun e32 => U.asVar false 1 e32 fun e33 => U.asAgg x2 fun us34 => if 4 = sizes (us34.take 4) then (us34[4]?).bind fun e35 => U.asVar false 1 e35 fun e36 => (U.bin .neq e33 e36).bind fun t37 => U.asBool t37
 (some (.bool false))
 (U.asAgg x1 fun us38 => if 5 = sizes (us38.take 5) then (us38[5]?).bind fun e39 => U.asVar false 1 e39 fun e40 => U.asAgg x2 fun us41 => if 5 = sizes (us41.take 5) then (us41[5]?).bind fun e42 => U.asVar false 1 e42 fun e43 => (U.bin .neq e40 e43).bind fun t44 => U.asBool t44
 (some (.bool false))
 (U.asAgg x1 fun us45 => if 6 = sizes (us45.take 6) then (us45[6]?).bind fun e46 => U.asVar false 1 e46 fun e47 => U.asAgg x2 fun us48 => if 6 = sizes (us48.take 6) then (us48[6]?).bind fun e49 => U.asVar false 1 e49 fun e50 => (U.bin .neq e47 e50).bind fun t51 => U.asBool t51
 (some (.bool false))
 (U.asAgg x1 fun us52 => if 7 = sizes (us52.take 7) then (us52[7]?).bind fun e53 => U.asVar false 1 e53 fun e54 => (U.lenOf false e54).bind fun n55 => U.asAgg x2 fun us56 => if 7 = sizes (us56.take 7) then (us56[7]?).bind fun e57 => U.asVar false 1 e57 fun e58 => (U.lenOf false e58).bind fun n59 => (U.bin .neq (.int .i64 (n55 : Int)) (.int .i64 (n59 : Int))).bind fun t60 => U.asBool t60
 (some (.bool false))
 (U.asAgg x1 fun us61 => if 8 = sizes (us61.take 8) then (us61[8]?).bind fun e62 => U.asVar false 1 e62 fun e63 => (U.lenOf false e63).bind fun n64 => U.asAgg x2 fun us65 => if 8 = sizes (us65.take 8) then (us65[8]?).bind fun e66 => U.asVar false 1 e66 fun e67 => (U.lenOf false e67).bind fun n68 => (U.bin .neq (.int .i64 (n64 : Int)) (.int .i64 (n68 : Int))).bind fun t69 => U.asBool t69
 (some (.bool false))
 (spec_EqualTransactions_l1 E (.int .i64 0) x1 x2) else none else none) else none else none) else none else none) else none else none) else none else none) else none else none) else none else none) else none else none) else none else none := by kernel_rfl
theorem spec_EqualTransactions_l1_eq (E : Env) (x5 : U) (b2 : U) (b3 : U) : spec_EqualTransactions_l1 E x5 b2 b3 =
 U.asAgg b2 fun us70 => if 7 = sizes (us70.take 7) then (us70[7]?).bind fun e71 => U.asVar false 1 e71 fun e72 => (U.lenOf false e72).bind fun n73 => (U.bin .lss x5 (.int .i64 (n73 : Int))).bind fun t74 => U.asBool t74
 (U.asAgg b2 fun us75 => if 7 = sizes (us75.take 7) then (us75[7]?).bind fun e76 => U.asVar false 1 e76 fun e77 => U.asInt x5 fun n78 => U.elemAt 2 e77 n78 fun e79 => U.asVar true 2 e79 fun e80 => U.asAgg b3 fun us81 => if 7 = sizes (us81.take 7) then (us81[7]?).bind fun e82 => U.asVar false 1 e82 fun e83 => U.asInt x5 fun n84 => U.elemAt 2 e83 n84 fun e85 => U.asVar true 2 e85 fun e86 => (U.eqv 4 e80 e86).bind fun q87 => U.asBool (.bool (!q87))
 (some (.bool false))
 ((U.bin .add x5 (.int .i64 1)).bind fun t88 => spec_EqualTransactions_l1 E t88 b2 b3) else none else none)
 (spec_EqualTransactions_l0 E (.int .i64 0) b2 b3) else none :=
 (loop_eq E _ _ _ _).trans (by kernel_rfl)
theorem spec_EqualTransactions_l0_eq (E : Env) (x6 : U) (b2 : U) (b3 : U) : spec_EqualTransactions_l0 E x6 b2 b3 =
 U.asAgg b2 fun us89 => if 8 = sizes (us89.take 8) then (us89[8]?).bind fun e90 => U.asVar false 1 e90 fun e91 => (U.lenOf false e91).bind fun n92 => (U.bin .lss x6 (.int .i64 (n92 : Int))).bind fun t93 => U.asBool t93
 (U.asAgg b2 fun us94 => if 8 = sizes (us94.take 8) then (us94[8]?).bind fun e95 => U.asVar false 1 e95 fun e96 => U.asInt x6 fun n97 => U.elemAt 2 e96 n97 fun e98 => U.asVar true 2 e98 fun e99 => U.asAgg b3 fun us100 => if 8 = sizes (us100.take 8) then (us100[8]?).bind fun e101 => U.asVar false 1 e101 fun e102 => U.asInt x6 fun n103 => U.elemAt 2 e102 n103 fun e104 => U.asVar true 2 e104 fun e105 => (U.eqv 4 e99 e105).bind fun q106 => U.asBool (.bool (!q106))
 (some (.bool false))
 ((U.bin .add x6 (.int .i64 1)).bind fun t107 => spec_EqualTransactions_l0 E t107 b2 b3) else none else none)
 (some (.bool true)) else none :=
 (loop_eq E _ _ _ _).trans (by kernel_rfl)

/-- In the environment E: this function and those that it calls. -/
structure G_spec_EqualTransactions (E : Env) : Prop where
  is : Is E 26 2 spec_EqualTransactions_ac [(4, none)]
theorem spec_EqualTransactions_E {E : Env} (h : G_spec_EqualTransactions E) (a0 a1 : U) : E 26 [a0, a1] =
 U.noTup a0 fun x1 => U.noTup a1 fun x2 => U.asAgg x1 fun us3 => if 0 = sizes (us3.take 0) then (us3[0]?).bind fun e4 => U.asVar false 1 e4 fun e5 => U.asAgg x2 fun us6 => if 0 = sizes (us6.take 0) then (us6[0]?).bind fun e7 => U.asVar false 1 e7 fun e8 => (U.bin .neq e5 e8).bind fun t9 => U.asBool t9
 (some (.bool false))
 (U.asAgg x1 fun us10 => if 1 = sizes (us10.take 1) then (us10[1]?).bind fun e11 => U.asVar false 1 e11 fun e12 => U.asAgg x2 fun us13 => if 1 = sizes (us13.take 1) then (us13[1]?).bind fun e14 => U.asVar false 1 e14 fun e15 => (U.bin .neq e12 e15).bind fun t16 => U.asBool t16
 (some (.bool false))
 (U.asAgg x1 fun us17 => if 2 = sizes (us17.take 2) then (us17[2]?).bind fun e18 => U.asVar false 1 e18 fun e19 => U.asAgg x2 fun us20 => if 2 = sizes (us20.take 2) then (us20[2]?).bind fun e21 => U.asVar false 1 e21 fun e22 => (U.bin .neq e19 e22).bind fun t23 => U.asBool t23
 (some (.bool false))
 (U.asAgg x1 fun us24 => if 3 = sizes (us24.take 3) then (us24[3]?).bind fun e25 => U.asVar false 1 e25 fun e26 => U.asAgg x2 fun us27 => if 3 = sizes (us27.take 3) then (us27[3]?).bind fun e28 => U.asVar false 1 e28 fun e29 => (U.bin .neq e26 e29).bind fun t30 => U.asBool t30
 (some (.bool false))
 (U.asAgg x1 fun us31 => if 4 = sizes (us31.take 4) then (us31[4]?).bind fun e32 => U.asVar false 1 e32 fun e33 => U.asAgg x2 fun us34 => if 4 = sizes (us34.take 4) then (us34[4]?).bind fun e35 => U.asVar false 1 e35 fun e36 => (U.bin .neq e33 e36).bind fun t37 => U.asBool t37
 (some (.bool false))
 (U.asAgg x1 fun us38 => if 5 = sizes (us38.take 5) then (us38[5]?).bind fun e39 => U.asVar false 1 e39 fun e40 => U.asAgg x2 fun us41 => if 5 = sizes (us41.take 5) then (us41[5]?).bind fun e42 => U.asVar false 1 e42 fun e43 => (U.bin .neq e40 e43).bind fun t44 => U.asBool t44
 (some (.bool false))
 (U.asAgg x1 fun us45 => if 6 = sizes (us45.take 6) then (us45[6]?).bind fun e46 => U.asVar false 1 e46 fun e47 => U.asAgg x2 fun us48 => if 6 = sizes (us48.take 6) then (us48[6]?).bind fun e49 => U.asVar false 1 e49 fun e50 => (U.bin .neq e47 e50).bind fun t51 => U.asBool t51
 (some (.bool false))
 (U.asAgg x1 fun us52 => if 7 = sizes (us52.take 7) then (us52[7]?).bind fun e53 => U.asVar false 1 e53 fun e54 => (U.lenOf false e54).bind fun n55 => U.asAgg x2 fun us56 => if 7 = sizes (us56.take 7) then (us56[7]?).bind fun e57 => U.asVar false 1 e57 fun e58 => (U.lenOf false e58).bind fun n59 => (U.bin .neq (.int .i64 (n55 : Int)) (.int .i64 (n59 : Int))).bind fun t60 => U.asBool t60
 (some (.bool false))
 (U.asAgg x1 fun us61 => if 8 = sizes (us61.take 8) then (us61[8]?).bind fun e62 => U.asVar false 1 e62 fun e63 => (U.lenOf false e63).bind fun n64 => U.asAgg x2 fun us65 => if 8 = sizes (us65.take 8) then (us65[8]?).bind fun e66 => U.asVar false 1 e66 fun e67 => (U.lenOf false e67).bind fun n68 => (U.bin .neq (.int .i64 (n64 : Int)) (.int .i64 (n68 : Int))).bind fun t69 => U.asBool t69
 (some (.bool false))
 (spec_EqualTransactions_l1 E (.int .i64 0) x1 x2) else none else none) else none else none) else none else none) else none else none) else none else none) else none else none) else none else none) else none else none) else none else none := (h.is _ rfl).trans (spec_EqualTransactions_eq E a0 a1)

end Go.Proofs.Ytfdcdbkblkehcaa.Am
namespace Go.Proofs.Ytfdcdbkblkehcaa.Am
open Go
set_option linter.unusedVariables false
set_option maxRecDepth 100000

/- loop.example/g01924/spec.EqualEngines -/
def spec_EqualEngines_b2 : AC :=
 (.seq (.seq (.region 0 [⟨some 55, .mv (.t 5), none⟩,
  ⟨some 56, .faddr 2 2 (.t 2), none⟩,
  ⟨some 57, .load false 1 (.t 56), none⟩,
  ⟨some 58, .len false (.t 57), none⟩,
  ⟨some 59, .bin .lss (.t 55) (.t 58), none⟩])
 (.cond (.t 59) .skip (.exit 0)))
 (.seq (.block 1 (.seq (.region 12 [⟨some 62, .faddr 2 2 (.t 2), none⟩,
  ⟨some 63, .load false 1 (.t 62), none⟩,
  ⟨some 64, .mv (.t 5), none⟩,
  ⟨some 65, .iaddr 9 (.t 63) (.t 64), none⟩,
  ⟨some 66, .load true 9 (.t 65), none⟩,
  ⟨some 67, .faddr 2 2 (.t 3), none⟩,
  ⟨some 68, .load false 1 (.t 67), none⟩,
  ⟨some 69, .mv (.t 5), none⟩,
  ⟨some 70, .iaddr 9 (.t 68) (.t 69), none⟩,
  ⟨some 71, .load true 9 (.t 70), none⟩,
  ⟨some 72, .call false 26 [(.t 66), (.t 71)], none⟩,
  ⟨some 73, .un .not (.t 72), none⟩])
 (.cond (.t 73) (.seq (.region 0 [⟨some 4, .mv (.c (.bool false)), none⟩])
 .ret) .skip)))
 (.region 0 [⟨some 60, .mv (.t 5), none⟩,
  ⟨some 61, .bin .add (.t 60) (.c (.int .i64 1)), none⟩,
  ⟨some 5, .mv (.t 61), none⟩])))
def spec_EqualEngines_b1 : AC :=
 (.seq (.seq (.region 0 [⟨some 74, .mv (.t 6), none⟩,
  ⟨some 75, .faddr 3 3 (.t 2), none⟩,
  ⟨some 76, .load false 1 (.t 75), none⟩,
  ⟨some 77, .len false (.t 76), none⟩,
  ⟨some 78, .bin .lss (.t 74) (.t 77), none⟩])
 (.cond (.t 78) .skip (.exit 2)))
 (.seq (.block 3 (.seq (.region 11 [⟨some 81, .faddr 3 3 (.t 2), none⟩,
  ⟨some 82, .load false 1 (.t 81), none⟩,
  ⟨some 83, .mv (.t 6), none⟩,
  ⟨some 84, .iaddr 2 (.t 82) (.t 83), none⟩,
  ⟨some 85, .load true 2 (.t 84), none⟩,
  ⟨some 86, .faddr 3 3 (.t 3), none⟩,
  ⟨some 87, .load false 1 (.t 86), none⟩,
  ⟨some 88, .mv (.t 6), none⟩,
  ⟨some 89, .iaddr 2 (.t 87) (.t 88), none⟩,
  ⟨some 90, .load true 2 (.t 89), none⟩,
  ⟨some 91, .eqv true 4 (.t 85) (.t 90), none⟩])
 (.cond (.t 91) (.seq (.region 0 [⟨some 4, .mv (.c (.bool false)), none⟩])
 .ret) .skip)))
 (.region 0 [⟨some 79, .mv (.t 6), none⟩,
  ⟨some 80, .bin .add (.t 79) (.c (.int .i64 1)), none⟩,
  ⟨some 6, .mv (.t 80), none⟩])))
def spec_EqualEngines_b0 : AC :=
 (.seq (.seq (.region 0 [⟨some 92, .mv (.t 7), none⟩,
  ⟨some 93, .faddr 4 4 (.t 2), none⟩,
  ⟨some 94, .load false 1 (.t 93), none⟩,
  ⟨some 95, .len false (.t 94), none⟩,
  ⟨some 96, .bin .lss (.t 92) (.t 95), none⟩])
 (.cond (.t 96) .skip (.exit 4)))
 (.seq (.block 5 (.seq (.region 11 [⟨some 99, .faddr 4 4 (.t 2), none⟩,
  ⟨some 100, .load false 1 (.t 99), none⟩,
  ⟨some 101, .mv (.t 7), none⟩,
  ⟨some 102, .iaddr 2 (.t 100) (.t 101), none⟩,
  ⟨some 103, .load true 2 (.t 102), none⟩,
  ⟨some 104, .faddr 4 4 (.t 3), none⟩,
  ⟨some 105, .load false 1 (.t 104), none⟩,
  ⟨some 106, .mv (.t 7), none⟩,
  ⟨some 107, .iaddr 2 (.t 105) (.t 106), none⟩,
  ⟨some 108, .load true 2 (.t 107), none⟩,
  ⟨some 109, .eqv true 4 (.t 103) (.t 108), none⟩])
 (.cond (.t 109) (.seq (.region 0 [⟨some 4, .mv (.c (.bool false)), none⟩])
 .ret) .skip)))
 (.region 0 [⟨some 97, .mv (.t 7), none⟩,
  ⟨some 98, .bin .add (.t 97) (.c (.int .i64 1)), none⟩,
  ⟨some 7, .mv (.t 98), none⟩])))
def spec_EqualEngines_r0 : AC :=
 (.seq (.region 0 [⟨some 4, .mv (.c (.bool true)), none⟩])
 .ret)
def spec_EqualEngines_r1 : AC :=
 (.seq (.seq (.region 0 [⟨some 7, .mv (.c (.int .i64 0)), none⟩])
 (.block 4 (.loop ⟨[2, 3, 7], [], [2, 3]⟩ spec_EqualEngines_b0)))
 spec_EqualEngines_r0)
def spec_EqualEngines_r2 : AC :=
 (.seq (.seq (.region 0 [⟨some 6, .mv (.c (.int .i64 0)), none⟩])
 (.block 2 (.loop ⟨[2, 3, 6], [], [2, 3]⟩ spec_EqualEngines_b1)))
 spec_EqualEngines_r1)
def spec_EqualEngines_ac : AC :=
 (.seq (.region 0 [⟨some 2, .box false (.t 0), none⟩,
  ⟨some 3, .box false (.t 1), none⟩,
  ⟨some 4, .mv (.c (.bool false)), none⟩])
 (.seq (.seq (.region 0 [⟨some 8, .faddr 0 0 (.t 2), none⟩,
  ⟨some 9, .load false 1 (.t 8), none⟩,
  ⟨some 10, .faddr 0 0 (.t 3), none⟩,
  ⟨some 11, .load false 1 (.t 10), none⟩,
  ⟨some 12, .eqv true 0 (.t 9) (.t 11), none⟩,
  ⟨some 13, .mv (.t 12), none⟩,
  ⟨some 14, .faddr 1 1 (.t 2), some (13, false)⟩,
  ⟨some 15, .load true 1 (.t 14), some (13, false)⟩,
  ⟨some 16, .faddr 1 1 (.t 3), some (13, false)⟩,
  ⟨some 17, .load true 1 (.t 16), some (13, false)⟩,
  ⟨some 18, .call false 265 [(.t 15), (.t 17)], some (13, false)⟩,
  ⟨some 19, .un .not (.t 18), some (13, false)⟩,
  ⟨some 20, .pick (.t 13) (.c (.bool true)) (.t 19), none⟩,
  ⟨some 21, .mv (.t 20), none⟩,
  ⟨some 22, .faddr 2 2 (.t 2), some (21, false)⟩,
  ⟨some 23, .load false 1 (.t 22), some (21, false)⟩,
  ⟨some 24, .len false (.t 23), some (21, false)⟩,
  ⟨some 25, .faddr 2 2 (.t 3), some (21, false)⟩,
  ⟨some 26, .load false 1 (.t 25), some (21, false)⟩,
  ⟨some 27, .len false (.t 26), some (21, false)⟩,
  ⟨some 28, .bin .neq (.t 24) (.t 27), some (21, false)⟩,
  ⟨some 29, .pick (.t 21) (.c (.bool true)) (.t 28), none⟩,
  ⟨some 30, .mv (.t 29), none⟩,
  ⟨some 31, .faddr 3 3 (.t 2), some (30, false)⟩,
  ⟨some 32, .load false 1 (.t 31), some (30, false)⟩,
  ⟨some 33, .len false (.t 32), some (30, false)⟩,
  ⟨some 34, .faddr 3 3 (.t 3), some (30, false)⟩,
  ⟨some 35, .load false 1 (.t 34), some (30, false)⟩,
  ⟨some 36, .len false (.t 35), some (30, false)⟩,
  ⟨some 37, .bin .neq (.t 33) (.t 36), some (30, false)⟩,
  ⟨some 38, .pick (.t 30) (.c (.bool true)) (.t 37), none⟩,
  ⟨some 39, .mv (.t 38), none⟩,
  ⟨some 40, .faddr 4 4 (.t 2), some (39, false)⟩,
  ⟨some 41, .load false 1 (.t 40), some (39, false)⟩,
  ⟨some 42, .len false (.t 41), some (39, false)⟩,
  ⟨some 43, .faddr 4 4 (.t 3), some (39, false)⟩,
  ⟨some 44, .load false 1 (.t 43), some (39, false)⟩,
  ⟨some 45, .len false (.t 44), some (39, false)⟩,
  ⟨some 46, .bin .neq (.t 42) (.t 45), some (39, false)⟩,
  ⟨some 47, .pick (.t 39) (.c (.bool true)) (.t 46), none⟩,
  ⟨some 48, .mv (.t 47), none⟩,
  ⟨some 49, .faddr 5 5 (.t 2), some (48, false)⟩,
  ⟨some 50, .load false 1 (.t 49), some (48, false)⟩,
  ⟨some 51, .faddr 5 5 (.t 3), some (48, false)⟩,
  ⟨some 52, .load false 1 (.t 51), some (48, false)⟩,
  ⟨some 53, .bin .neq (.t 50) (.t 52), some (48, false)⟩,
  ⟨some 54, .pick (.t 48) (.c (.bool true)) (.t 53), none⟩])
 (.cond (.t 54) (.seq (.region 0 [⟨some 4, .mv (.c (.bool false)), none⟩])
 .ret) .skip))
 (.seq (.seq (.region 0 [⟨some 5, .mv (.c (.int .i64 0)), none⟩])
 (.block 0 (.loop ⟨[2, 3, 5], [], [2, 3]⟩ spec_EqualEngines_b2)))
 spec_EqualEngines_r2)))
noncomputable def spec_EqualEngines_l2 (E : Env) (x5 : U) (b2 : U) (b3 : U) : Option U := loopK (roundOf E ⟨[2, 3, 5], [], [2, 3]⟩ spec_EqualEngines_b2 (blockK 0 (seqK (fun s => exec E spec_EqualEngines_r2 s (finish [(4, none)])) (finish [(4, none)])))) ([.ptr 2 [], .ptr 3 [], .val x5], [.box (.val b2), .box (.val b3)])
noncomputable def spec_EqualEngines_l1 (E : Env) (x6 : U) (b2 : U) (b3 : U) : Option U := loopK (roundOf E ⟨[2, 3, 6], [], [2, 3]⟩ spec_EqualEngines_b1 (blockK 2 (seqK (fun s => exec E spec_EqualEngines_r1 s (finish [(4, none)])) (finish [(4, none)])))) ([.ptr 2 [], .ptr 3 [], .val x6], [.box (.val b2), .box (.val b3)])
noncomputable def spec_EqualEngines_l0 (E : Env) (x7 : U) (b2 : U) (b3 : U) : Option U := loopK (roundOf E ⟨[2, 3, 7], [], [2, 3]⟩ spec_EqualEngines_b0 (blockK 4 (seqK (fun s => exec E spec_EqualEngines_r0 s (finish [(4, none)])) (finish [(4, none)])))) ([.ptr 2 [], .ptr 3 [], .val x7], [.box (.val b2), .box (.val b3)])
theorem spec_EqualEngines_eq (E : Env) (a0 : U) (a1 : U) : run E spec_EqualEngines_ac [(4, none)] [a0, a1] =
 U.noTup a0 fun x1 => U.noTup a1 fun x2 => U.asAgg x1 fun us3 => if 0 = sizes (us3.take 0) then (us3[0]?).bind fun e4 => U.asVar false 1 e4 fun e5 => U.asAgg x2 fun us6 => if 0 = sizes (us6.take 0) then (us6[0]?).bind fun e7 => U.asVar false 1 e7 fun e8 => (U.eqv 0 e5 e8).bind fun q9 => U.asBool (.bool (!q9))
 (some (.bool false))
 (U.asAgg x1 fun us10 => if 1 = sizes (us10.take 1) then (us10[1]?).bind fun e11 => U.asVar true 1 e11 fun e12 => U.asAgg x2 fun us13 => if 1 = sizes (us13.take 1) then (us13[1]?).bind fun e14 => U.asVar true 1 e14 fun e15 => (E 265 [e12, e15]).bind fun t16 => (U.un .not t16).bind fun t17 => U.asBool t17
 (some (.bool false))
 (U.asAgg x1 fun us18 => if 2 = sizes (us18.take 2) then (us18[2]?).bind fun e19 => U.asVar false 1 e19 fun e20 => (U.lenOf false e20).bind fun n21 => U.asAgg x2 fun us22 => if 2 = sizes (us22.take 2) then (us22[2]?).bind fun e23 => U.asVar false 1 e23 fun e24 => (U.lenOf false e24).bind fun n25 => (U.bin .neq (.int .i64 (n21 : Int)) (.int .i64 (n25 : Int))).bind fun t26 => U.asBool t26
 (some (.bool false))
 (U.asAgg x1 fun us27 => if 3 = sizes (us27.take 3) then (us27[3]?).bind fun e28 => U.asVar false 1 e28 fun e29 => (U.lenOf false e29).bind fun n30 => U.asAgg x2 fun us31 => if 3 = sizes (us31.take 3) then (us31[3]?).bind fun e32 => U.asVar false 1 e32 fun e33 => (U.lenOf false e33).bind fun n34 => (U.bin .neq (.int .i64 (n30 : Int)) (.int .i64 (n34 : Int))).bind fun t35 => U.asBool t35
 (some (.bool false))
 (U.asAgg x1 fun us36 => if 4 = sizes (us36.take 4) then (us36[4]?).bind fun e37 => U.asVar false 1 e37 fun e38 => (U.lenOf false e38).bind fun n39 => U.asAgg x2 fun us40 => if 4 = sizes (us40.take 4) then (us40[4]?).bind fun e41 => U.asVar false 1 e41 fun e42 => (U.lenOf false e42).bind fun n43 => (U.bin .neq (.int .i64 (n39 : Int)) (.int .i64 (n43 : Int))).bind fun t44 => U.asBool t44
 (some (.bool false))
 (U.asAgg x1 fun us45 => if 5 = sizes (us45.take 5) then (us45[5]?).bind fun e46 => U.asVar false 1 e46 fun e47 => U.asAgg x2 fun us48 => if 5 = sizes (us48.take 5) then (us48[5]?).bind fun e49 => U.asVar false 1 e49 fun e50 => (U.bin .neq e47 e50).bind fun t51 => U.asBool t51
 (some (.bool false))
 (spec_EqualEngines_l2 E (.int .i64 0) x1 x2) else none else none) else none else none) else none else none) else none else none) else none else none) else none else none := by kernel_rfl
theorem spec_EqualEngines_l2_eq (E : Env) (x5 : U) (b2 : U) (b3 : U) : spec_EqualEngines_l2 E x5 b2 b3 =
 U.asAgg b2 fun us52 => if 2 = sizes (us52.take 2) then (us52[2]?).bind fun e53 => U.asVar false 1 e53 fun e54 => (U.lenOf false e54).bind fun n55 => (U.bin .lss x5 (.int .i64 (n55 : Int))).bind fun t56 => U.asBool t56
 (U.asAgg b2 fun us57 => if 2 = sizes (us57.take 2) then (us57[2]?).bind fun e58 => U.asVar false 1 e58 fun e59 => U.asInt x5 fun n60 => U.elemAt 9 e59 n60 fun e61 => U.asVar true 9 e61 fun e62 => U.asAgg b3 fun us63 => if 2 = sizes (us63.take 2) then (us63[2]?).bind fun e64 => U.asVar false 1 e64 fun e65 => U.asInt x5 fun n66 => U.elemAt 9 e65 n66 fun e67 => U.asVar true 9 e67 fun e68 => (E 26 [e62, e68]).bind fun t69 => (U.un .not t69).bind fun t70 => U.asBool t70
 (some (.bool false))
 ((U.bin .add x5 (.int .i64 1)).bind fun t71 => spec_EqualEngines_l2 E t71 b2 b3) else none else none)
 (spec_EqualEngines_l1 E (.int .i64 0) b2 b3) else none :=
 (loop_eq E _ _ _ _).trans (by kernel_rfl)
theorem spec_EqualEngines_l1_eq (E : Env) (x6 : U) (b2 : U) (b3 : U) : spec_EqualEngines_l1 E x6 b2 b3 =
 U.asAgg b2 fun us72 => if 3 = sizes (us72.take 3) then (us72[3]?).bind fun e73 => U.asVar false 1 e73 fun e74 => (U.lenOf false e74).bind fun n75 => (U.bin .lss x6 (.int .i64 (n75 : Int))).bind fun t76 => U.asBool t76
 (U.asAgg b2 fun us77 => if 3 = sizes (us77.take 3) then (us77[3]?).bind fun e78 => U.asVar false 1 e78 fun e79 => U.asInt x6 fun n80 => U.elemAt 2 e79 n80 fun e81 => U.asVar true 2 e81 fun e82 => U.asAgg b3 fun us83 => if 3 = sizes (us83.take 3) then (us83[3]?).bind fun e84 => U.asVar false 1 e84 fun e85 => U.asInt x6 fun n86 => U.elemAt 2 e85 n86 fun e87 => U.asVar true 2 e87 fun e88 => (U.eqv 4 e82 e88).bind fun q89 => U.asBool (.bool (!q89))
 (some (.bool false))
 ((U.bin .add x6 (.int .i64 1)).bind fun t90 => spec_EqualEngines_l1 E t90 b2 b3) else none else none)
 (spec_EqualEngines_l0 E (.int .i64 0) b2 b3) else none :=
 (loop_eq E _ _ _ _).trans (by kernel_rfl)
theorem spec_EqualEngines_l0_eq (E : Env) (x7 : U) (b2 : U) (b3 : U) : spec_EqualEngines_l0 E x7 b2 b3 =
 U.asAgg b2 fun us91 => if 4 = sizes (us91.take 4) then (us91[4]?).bind fun e92 => U.asVar false 1 e92 fun e93 => (U.lenOf false e93).bind fun n94 => (U.bin .lss x7 (.int .i64 (n94 : Int))).bind fun t95 => U.asBool t95
 (U.asAgg b2 fun us96 => if 4 = sizes (us96.take 4) then (us96[4]?).bind fun e97 => U.asVar false 1 e97 fun e98 => U.asInt x7 fun n99 => U.elemAt 2 e98 n99 fun e100 => U.asVar true 2 e100 fun e101 => U.asAgg b3 fun us102 => if 4 = sizes (us102.take 4) then (us102[4]?).bind fun e103 => U.asVar false 1 e103 fun e104 => U.asInt x7 fun n105 => U.elemAt 2 e104 n105 fun e106 => U.asVar true 2 e106 fun e107 => (U.eqv 4 e101 e107).bind fun q108 => U.asBool (.bool (!q108))
 (some (.bool false))
 ((U.bin .add x7 (.int .i64 1)).bind fun t109 => spec_EqualEngines_l0 E t109 b2 b3) else none else none)
 (some (.bool true)) else none :=
 (loop_eq E _ _ _ _).trans (by kernel_rfl)

/-- In the environment E: this function and those that it calls. -/
structure G_spec_EqualEngines (E : Env) : Prop where
  is : Is E 264 2 spec_EqualEngines_ac [(4, none)]
  c_spec_EqualStores : G_spec_EqualStores E
  c_spec_EqualTransactions : G_spec_EqualTransactions E
theorem spec_EqualEngines_E {E : Env} (h : G_spec_EqualEngines E) (a0 a1 : U) : E 264 [a0, a1] =
 U.noTup a0 fun x1 => U.noTup a1 fun x2 => U.asAgg x1 fun us3 => if 0 = sizes (us3.take 0) then (us3[0]?).bind fun e4 => U.asVar false 1 e4 fun e5 => U.asAgg x2 fun us6 => if 0 = sizes (us6.take 0) then (us6[0]?).bind fun e7 => U.asVar false 1 e7 fun e8 => (U.eqv 0 e5 e8).bind fun q9 => U.asBool (.bool (!q9))
 (some (.bool false))
 (U.asAgg x1 fun us10 => if 1 = sizes (us10.take 1) then (us10[1]?).bind fun e11 => U.asVar true 1 e11 fun e12 => U.asAgg x2 fun us13 => if 1 = sizes (us13.take 1) then (us13[1]?).bind fun e14 => U.asVar true 1 e14 fun e15 => (E 265 [e12, e15]).bind fun t16 => (U.un .not t16).bind fun t17 => U.asBool t17
 (some (.bool false))
 (U.asAgg x1 fun us18 => if 2 = sizes (us18.take 2) then (us18[2]?).bind fun e19 => U.asVar false 1 e19 fun e20 => (U.lenOf false e20).bind fun n21 => U.asAgg x2 fun us22 => if 2 = sizes (us22.take 2) then (us22[2]?).bind fun e23 => U.asVar false 1 e23 fun e24 => (U.lenOf false e24).bind fun n25 => (U.bin .neq (.int .i64 (n21 : Int)) (.int .i64 (n25 : Int))).bind fun t26 => U.asBool t26
 (some (.bool false))
 (U.asAgg x1 fun us27 => if 3 = sizes (us27.take 3) then (us27[3]?).bind fun e28 => U.asVar false 1 e28 fun e29 => (U.lenOf false e29).bind fun n30 => U.asAgg x2 fun us31 => if 3 = sizes (us31.take 3) then (us31[3]?).bind fun e32 => U.asVar false 1 e32 fun e33 => (U.lenOf false e33).bind fun n34 => (U.bin .neq (.int .i64 (n30 : Int)) (.int .i64 (n34 : Int))).bind fun t35 => U.asBool t35
 (some (.bool false))
 (U.asAgg x1 fun us36 => if 4 = sizes (us36.take 4) then (us36[4]?).bind fun e37 => U.asVar false 1 e37 fun e38 => (U.lenOf false e38).bind fun n39 => U.asAgg x2 fun us40 => if 4 = sizes (us40.take 4) then (us40[4]?).bind fun e41 => U.asVar false 1 e41 fun e42 => (U.lenOf false e42).bind fun n43 => (U.bin .neq (.int .i64 (n39 : Int)) (.int .i64 (n43 : Int))).bind fun t44 => U.asBool t44
 (some (.bool false))
 (U.asAgg x1 fun us45 => if 5 = sizes (us45.take 5) then (us45[5]?).bind fun e46 => U.asVar false 1 e46 fun e47 => U.asAgg x2 fun us48 => if 5 = sizes (us48.take 5) then (us48[5]?).bind fun e49 => U.asVar false 1 e49 fun e50 => (U.bin .neq e47 e50).bind fun t51 => U.asBool t51
 (some (.bool false))
 (spec_EqualEngines_l2 E (.int .i64 0) x1 x2) else none else none) else none else none) else none else none) else none else none) else none else none) else none else none := (h.is _ rfl).trans (spec_EqualEngines_eq E a0 a1)

end Go.Proofs.Ytfdcdbkblkehcaa.Am
namespace Go.Proofs.Ytfdcdbkblkehcaa.Am
open Go
set_option linter.unusedVariables false
set_option maxRecDepth 100000

/- loop.example/g01924/spec.EqualNodes -/
def spec_EqualNodes_ac : AC :=
 (.seq (.region 0 [⟨some 2, .box false (.t 0), none⟩,
  ⟨some 3, .box false (.t 1), none⟩,
  ⟨some 4, .mv (.c (.bool false)), none⟩])
 (.seq (.region 0 [⟨some 5, .faddr 1 6 (.t 2), none⟩,
  ⟨some 6, .load false 1 (.t 5), none⟩,
  ⟨some 7, .faddr 1 6 (.t 3), none⟩,
  ⟨some 8, .load false 1 (.t 7), none⟩,
  ⟨some 9, .bin .eql (.t 6) (.t 8), none⟩,
  ⟨some 10, .mv (.t 9), none⟩,
  ⟨some 11, .faddr 0 0 (.t 2), some (10, true)⟩,
  ⟨some 12, .load true 6 (.t 11), some (10, true)⟩,
  ⟨some 13, .faddr 0 0 (.t 3), some (10, true)⟩,
  ⟨some 14, .load true 6 (.t 13), some (10, true)⟩,
  ⟨some 15, .call false 264 [(.t 12), (.t 14)], some (10, true)⟩,
  ⟨some 16, .pick (.t 10) (.t 15) (.c (.bool false)), none⟩,
  ⟨some 4, .mv (.t 16), none⟩])
 .ret))

theorem spec_EqualNodes_eq (E : Env) (a0 : U) (a1 : U) : run E spec_EqualNodes_ac [(4, none)] [a0, a1] =
 U.noTup a0 fun x1 => U.noTup a1 fun x2 => U.asAgg x1 fun us3 => if 6 = sizes (us3.take 1) then (us3[1]?).bind fun e4 => U.asVar false 1 e4 fun e5 => U.asAgg x2 fun us6 => if 6 = sizes (us6.take 1) then (us6[1]?).bind fun e7 => U.asVar false 1 e7 fun e8 => (U.bin .eql e5 e8).bind fun t9 => U.asBool t9
 (U.asAgg x1 fun us10 => if 0 = sizes (us10.take 0) then (us10[0]?).bind fun e11 => U.asVar true 6 e11 fun e12 => U.asAgg x2 fun us13 => if 0 = sizes (us13.take 0) then (us13[0]?).bind fun e14 => U.asVar true 6 e14 fun e15 => (E 264 [e12, e15]).bind fun t16 => some t16 else none else none)
 (some (.bool false)) else none else none := by kernel_rfl

/-- In the environment E: this function and those that it calls. -/
structure G_spec_EqualNodes (E : Env) : Prop where
  is : Is E 262 2 spec_EqualNodes_ac [(4, none)]
  c_spec_EqualEngines : G_spec_EqualEngines E
theorem spec_EqualNodes_E {E : Env} (h : G_spec_EqualNodes E) (a0 a1 : U) : E 262 [a0, a1] =
 U.noTup a0 fun x1 => U.noTup a1 fun x2 => U.asAgg x1 fun us3 => if 6 = sizes (us3.take 1) then (us3[1]?).bind fun e4 => U.asVar false 1 e4 fun e5 => U.asAgg x2 fun us6 => if 6 = sizes (us6.take 1) then (us6[1]?).bind fun e7 => U.asVar false 1 e7 fun e8 => (U.bin .eql e5 e8).bind fun t9 => U.asBool t9
 (U.asAgg x1 fun us10 => if 0 = sizes (us10.take 0) then (us10[0]?).bind fun e11 => U.asVar true 6 e11 fun e12 => U.asAgg x2 fun us13 => if 0 = sizes (us13.take 0) then (us13[0]?).bind fun e14 => U.asVar true 6 e14 fun e15 => (E 264 [e12, e15]).bind fun t16 => some t16 else none else none)
 (some (.bool false)) else none else none := (h.is _ rfl).trans (spec_EqualNodes_eq E a0 a1)

end Go.Proofs.Ytfdcdbkblkehcaa.Am
namespace Go.Proofs.Ytfdcdbkblkehcaa.Am
open Go
set_option linter.unusedVariables false
set_option maxRecDepth 100000

/- loop.example/g01924/laws.toVersion -/
def laws_toVersion_ac : AC :=
 (.seq (.region 0 [⟨some 1, .box false (.t 0), none⟩,
  ⟨some 2, .alloc (.agg [(.int .i64 0), (.int .i64 0), (.int .i64 0), (.int .i64 0), (.int .i64 0)]), none⟩])
 (.seq (.region 0 [⟨some 3, .alloc (.agg [(.int .i64 0), (.int .i64 0), (.int .i64 0), (.int .i64 0), (.int .i64 0)]), none⟩])
 (.seq (.region 0 [⟨some 4, .faddr 0 0 (.t 1), none⟩,
  ⟨some 5, .load false 1 (.t 4), none⟩,
  ⟨some 6, .faddr 0 0 (.t 3), none⟩,
  ⟨none, .store 1 (.t 6) (.t 5), none⟩])
 (.seq (.region 0 [⟨some 7, .faddr 1 1 (.t 1), none⟩,
  ⟨some 8, .load false 1 (.t 7), none⟩,
  ⟨some 9, .faddr 1 1 (.t 3), none⟩,
  ⟨none, .store 1 (.t 9) (.t 8), none⟩])
 (.seq (.region 0 [⟨some 10, .faddr 2 2 (.t 1), none⟩,
  ⟨some 11, .load false 1 (.t 10), none⟩,
  ⟨some 12, .faddr 2 2 (.t 3), none⟩,
  ⟨none, .store 1 (.t 12) (.t 11), none⟩])
 (.seq (.region 0 [⟨some 13, .faddr 3 3 (.t 1), none⟩,
  ⟨some 14, .load false 1 (.t 13), none⟩,
  ⟨some 15, .faddr 3 3 (.t 3), none⟩,
  ⟨none, .store 1 (.t 15) (.t 14), none⟩])
 (.seq (.region 0 [⟨some 16, .faddr 4 4 (.t 1), none⟩,
  ⟨some 17, .load false 1 (.t 16), none⟩,
  ⟨some 18, .faddr 4 4 (.t 3), none⟩,
  ⟨none, .store 1 (.t 18) (.t 17), none⟩])
 (.seq (.region 0 [⟨some 19, .load true 5 (.t 3), none⟩,
  ⟨none, .store 5 (.t 2) (.t 19), none⟩])
 .ret))))))))

theorem laws_toVersion_eq (E : Env) (a0 : U) : run E laws_toVersion_ac [(2, some (true, 5))] [a0] =
 U.noTup a0 fun x1 => U.asAgg x1 fun us2 => if 0 = sizes (us2.take 0) then (us2[0]?).bind fun e3 => U.asVar false 1 e3 fun e4 => if storable (.val e4) = true ∧ e4.size = 1 then U.asAgg x1 fun us5 => if 1 = sizes (us5.take 1) then (us5[1]?).bind fun e6 => U.asVar false 1 e6 fun e7 => if storable (.val e7) = true ∧ e7.size = 1 then if 1 = sizes [e4] then U.asAgg x1 fun us8 => if 2 = sizes (us8.take 2) then (us8[2]?).bind fun e9 => U.asVar false 1 e9 fun e10 => if storable (.val e10) = true ∧ e10.size = 1 then if 2 = sizes [e4, e7] then U.asAgg x1 fun us11 => if 3 = sizes (us11.take 3) then (us11[3]?).bind fun e12 => U.asVar false 1 e12 fun e13 => if storable (.val e13) = true ∧ e13.size = 1 then if 3 = sizes [e4, e7, e10] then U.asAgg x1 fun us14 => if 4 = sizes (us14.take 4) then (us14[4]?).bind fun e15 => U.asVar false 1 e15 fun e16 => if storable (.val e16) = true ∧ e16.size = 1 then if 4 = sizes [e4, e7, e10, e13] then U.asVar true 5 (.agg [e4, e7, e10, e13, e16]) fun e17 => if storable (.val e17) = true ∧ e17.size = 5 then U.asVar true 5 e17 fun e18 => some e18 else none else none else none else none else none else none else none else none else none else none else none else none else none else none else none := by kernel_rfl

/-- In the environment E: this function and those that it calls. -/
structure G_laws_toVersion (E : Env) : Prop where
  is : Is E 109 1 laws_toVersion_ac [(2, some (true, 5))]
theorem laws_toVersion_E {E : Env} (h : G_laws_toVersion E) (a0 : U) : E 109 [a0] =
 U.noTup a0 fun x1 => U.asAgg x1 fun us2 => if 0 = sizes (us2.take 0) then (us2[0]?).bind fun e3 => U.asVar false 1 e3 fun e4 => if storable (.val e4) = true ∧ e4.size = 1 then U.asAgg x1 fun us5 => if 1 = sizes (us5.take 1) then (us5[1]?).bind fun e6 => U.asVar false 1 e6 fun e7 => if storable (.val e7) = true ∧ e7.size = 1 then if 1 = sizes [e4] then U.asAgg x1 fun us8 => if 2 = sizes (us8.take 2) then (us8[2]?).bind fun e9 => U.asVar false 1 e9 fun e10 => if storable (.val e10) = true ∧ e10.size = 1 then if 2 = sizes [e4, e7] then U.asAgg x1 fun us11 => if 3 = sizes (us11.take 3) then (us11[3]?).bind fun e12 => U.asVar false 1 e12 fun e13 => if storable (.val e13) = true ∧ e13.size = 1 then if 3 = sizes [e4, e7, e10] then U.asAgg x1 fun us14 => if 4 = sizes (us14.take 4) then (us14[4]?).bind fun e15 => U.asVar false 1 e15 fun e16 => if storable (.val e16) = true ∧ e16.size = 1 then if 4 = sizes [e4, e7, e10, e13] then U.asVar true 5 (.agg [e4, e7, e10, e13, e16]) fun e17 => if storable (.val e17) = true ∧ e17.size = 5 then U.asVar true 5 e17 fun e18 => some e18 else none else none else none else none else none else none else none else none else none else none else none else none else none else none else none := (h.is _ rfl).trans (laws_toVersion_eq E a0)

end Go.Proofs.Ytfdcdbkblkehcaa.Am
namespace Go.Proofs.Ytfdcdbkblkehcaa.Am
open Go
set_option linter.unusedVariables false
set_option maxRecDepth 100000

/- loop.example/g01924/laws.toVersionS -/
def laws_toVersionS_b0 : AC :=
 (.seq (.seq (.region 0 [⟨some 8, .mv (.t 4), none⟩,
  ⟨some 9, .mv (.t 0), none⟩,
  ⟨some 10, .len false (.t 9), none⟩,
  ⟨some 11, .bin .lss (.t 8) (.t 10), none⟩])
 (.cond (.t 11) .skip (.exit 0)))
 (.seq (.block 1 (.region 0 [⟨some 14, .mv (.t 3), none⟩,
  ⟨some 15, .mv (.t 4), none⟩,
  ⟨some 16, .mv (.t 0), none⟩,
  ⟨some 17, .mv (.t 4), none⟩,
  ⟨some 18, .iaddr 5 (.t 16) (.t 17), none⟩,
  ⟨some 19, .load true 5 (.t 18), none⟩,
  ⟨some 20, .call false 109 [(.t 19)], none⟩,
  ⟨some 21, .iaddr 5 (.t 14) (.t 15), none⟩,
  ⟨none, .store 5 (.t 21) (.t 20), none⟩]))
 (.region 0 [⟨some 12, .mv (.t 4), none⟩,
  ⟨some 13, .bin .add (.t 12) (.c (.int .i64 1)), none⟩,
  ⟨some 4, .mv (.t 13), none⟩])))
def laws_toVersionS_r0 : AC :=
 (.seq (.region 0 [⟨some 22, .mv (.t 3), none⟩,
  ⟨some 2, .mv (.t 22), none⟩])
 .ret)
def laws_toVersionS_ac : AC :=
 (.seq (.region 0 [⟨some 2, .mv (.c (.nsl 5)), none⟩])
 (.seq (.region 0 [⟨some 5, .mv (.t 0), none⟩,
  ⟨some 6, .len false (.t 5), none⟩,
  ⟨some 7, .mkslice 5 40 (.agg [(.int .i64 0), (.int .i64 0), (.int .i64 0), (.int .i64 0), (.int .i64 0)]) (.t 6) (.t 6), none⟩,
  ⟨some 3, .mv (.t 7), none⟩])
 (.seq (.seq (.region 0 [⟨some 4, .mv (.c (.int .i64 0)), none⟩])
 (.block 0 (.loop ⟨[0, 4], [(3, 5)], []⟩ laws_toVersionS_b0)))
 laws_toVersionS_r0)))
noncomputable def laws_toVersionS_l0 (E : Env) (x0 : U) (x4 : U) (c3 : List U) : Option U := loopK (roundOf E ⟨[0, 4], [(3, 5)], []⟩ laws_toVersionS_b0 (blockK 0 (seqK (fun s => exec E laws_toVersionS_r0 s (finish [(2, none)])) (finish [(2, none)])))) ([.val x0, .val x4], [.arr 5 c3])
theorem laws_toVersionS_eq (E : Env) (a0 : U) : run E laws_toVersionS_ac [(2, none)] [a0] =
 (U.lenOf false a0).bind fun n1 => if 0 ≤ (n1 : Int) ∧ (n1 : Int) ≤ (n1 : Int) ∧ (n1 : Int) * 40 ≤ 140737488355328 ∧ ((.agg [(.int .i64 0), (.int .i64 0), (.int .i64 0), (.int .i64 0), (.int .i64 0)]) : U).size = 5 then laws_toVersionS_l0 E a0 (.int .i64 0) (List.replicate ((n1 : Int) : Int).toNat (.agg [(.int .i64 0), (.int .i64 0), (.int .i64 0), (.int .i64 0), (.int .i64 0)])) else none := by kernel_rfl
theorem laws_toVersionS_l0_eq (E : Env) (x0 : U) (x4 : U) (c3 : List U) : laws_toVersionS_l0 E x0 x4 c3 =
 (U.lenOf false x0).bind fun n2 => (U.bin .lss x4 (.int .i64 (n2 : Int))).bind fun t3 => U.asBool t3
 (U.asInt x4 fun n4 => U.elemAt 5 x0 n4 fun e5 => U.asVar true 5 e5 fun e6 => (E 109 [e6]).bind fun t7 => U.asInt x4 fun n8 => if 5 = 5 ∧ 5 = 5 ∧ 0 ≤ n8 ∧ n8 < ((c3).length : Int) then if storable (.val t7) = true ∧ t7.size = 5 then if 5 = 5 then (c3[(n8 : Int).toNat]?).bind fun e9 => if e9.size = 5 then (U.bin .add x4 (.int .i64 1)).bind fun t10 => laws_toVersionS_l0 E x0 t10 (c3.set (n8 : Int).toNat t7) else none else none else none else none)
 (some (.sl 5 c3)) :=
 (loop_eq E _ _ _ _).trans (by kernel_rfl)

/-- In the environment E: this function and those that it calls. -/
structure G_laws_toVersionS (E : Env) : Prop where
  is : Is E 108 1 laws_toVersionS_ac [(2, none)]
  c_laws_toVersion : G_laws_toVersion E
theorem laws_toVersionS_E {E : Env} (h : G_laws_toVersionS E) (a0 : U) : E 108 [a0] =
 (U.lenOf false a0).bind fun n1 => if 0 ≤ (n1 : Int) ∧ (n1 : Int) ≤ (n1 : Int) ∧ (n1 : Int) * 40 ≤ 140737488355328 ∧ ((.agg [(.int .i64 0), (.int .i64 0), (.int .i64 0), (.int .i64 0), (.int .i64 0)]) : U).size = 5 then laws_toVersionS_l0 E a0 (.int .i64 0) (List.replicate ((n1 : Int) : Int).toNat (.agg [(.int .i64 0), (.int .i64 0), (.int .i64 0), (.int .i64 0), (.int .i64 0)])) else none := (h.is _ rfl).trans (laws_toVersionS_eq E a0)

end Go.Proofs.Ytfdcdbkblkehcaa.Am
namespace Go.Proofs.Ytfdcdbkblkehcaa.Am
open Go
set_option linter.unusedVariables false
set_option maxRecDepth 100000

/- loop.example/g01924/laws.toVersionSS -/
def laws_toVersionSS_b0 : AC :=
 (.seq (.seq (.region 0 [⟨some 8, .mv (.t 4), none⟩,
  ⟨some 9, .mv (.t 0), none⟩,
  ⟨some 10, .len false (.t 9), none⟩,
  ⟨some 11, .bin .lss (.t 8) (.t 10), none⟩])
 (.cond (.t 11) .skip (.exit 0)))
 (.seq (.block 1 (.region 0 [⟨some 14, .mv (.t 3), none⟩,
  ⟨some 15, .mv (.t 4), none⟩,
  ⟨some 16, .mv (.t 0), none⟩,
  ⟨some 17, .mv (.t 4), none⟩,
  ⟨some 18, .iaddr 1 (.t 16) (.t 17), none⟩,
  ⟨some 19, .load false 1 (.t 18), none⟩,
  ⟨some 20, .call false 108 [(.t 19)], none⟩,
  ⟨some 21, .iaddr 1 (.t 14) (.t 15), none⟩,
  ⟨none, .store 1 (.t 21) (.t 20), none⟩]))
 (.region 0 [⟨some 12, .mv (.t 4), none⟩,
  ⟨some 13, .bin .add (.t 12) (.c (.int .i64 1)), none⟩,
  ⟨some 4, .mv (.t 13), none⟩])))
def laws_toVersionSS_r0 : AC :=
 (.seq (.region 0 [⟨some 22, .mv (.t 3), none⟩,
  ⟨some 2, .mv (.t 22), none⟩])
 .ret)
def laws_toVersionSS_ac : AC :=
 (.seq (.region 0 [⟨some 2, .mv (.c (.nsl 1)), none⟩])
 (.seq (.region 0 [⟨some 5, .mv (.t 0), none⟩,
  ⟨some 6, .len false (.t 5), none⟩,
  ⟨some 7, .mkslice 1 24 (.nsl 5) (.t 6) (.t 6), none⟩,
  ⟨some 3, .mv (.t 7), none⟩])
 (.seq (.seq (.region 0 [⟨some 4, .mv (.c (.int .i64 0)), none⟩])
 (.block 0 (.loop ⟨[0, 4], [(3, 1)], []⟩ laws_toVersionSS_b0)))
 laws_toVersionSS_r0)))
noncomputable def laws_toVersionSS_l0 (E : Env) (x0 : U) (x4 : U) (c3 : List U) : Option U := loopK (roundOf E ⟨[0, 4], [(3, 1)], []⟩ laws_toVersionSS_b0 (blockK 0 (seqK (fun s => exec E laws_toVersionSS_r0 s (finish [(2, none)])) (finish [(2, none)])))) ([.val x0, .val x4], [.arr 1 c3])
theorem laws_toVersionSS_eq (E : Env) (a0 : U) : run E laws_toVersionSS_ac [(2, none)] [a0] =
 (U.lenOf false a0).bind fun n1 => if 0 ≤ (n1 : Int) ∧ (n1 : Int) ≤ (n1 : Int) ∧ (n1 : Int) * 24 ≤ 140737488355328 ∧ ((.nsl 5) : U).size = 1 then laws_toVersionSS_l0 E a0 (.int .i64 0) (List.replicate ((n1 : Int) : Int).toNat (.nsl 5)) else none := by kernel_rfl
theorem laws_toVersionSS_l0_eq (E : Env) (x0 : U) (x4 : U) (c3 : List U) : laws_toVersionSS_l0 E x0 x4 c3 =
 (U.lenOf false x0).bind fun n2 => (U.bin .lss x4 (.int .i64 (n2 : Int))).bind fun t3 => U.asBool t3
 (U.asInt x4 fun n4 => U.elemAt 1 x0 n4 fun e5 => U.asVar false 1 e5 fun e6 => (E 108 [e6]).bind fun t7 => U.asInt x4 fun n8 => if 1 = 1 ∧ 1 = 1 ∧ 0 ≤ n8 ∧ n8 < ((c3).length : Int) then if storable (.val t7) = true ∧ t7.size = 1 then if 1 = 1 then (c3[(n8 : Int).toNat]?).bind fun e9 => if e9.size = 1 then (U.bin .add x4 (.int .i64 1)).bind fun t10 => laws_toVersionSS_l0 E x0 t10 (c3.set (n8 : Int).toNat t7) else none else none else none else none)
 (some (.sl 1 c3)) :=
 (loop_eq E _ _ _ _).trans (by kernel_rfl)

/-- In the environment E: this function and those that it calls. -/
structure G_laws_toVersionSS (E : Env) : Prop where
  is : Is E 107 1 laws_toVersionSS_ac [(2, none)]
  c_laws_toVersionS : G_laws_toVersionS E
theorem laws_toVersionSS_E {E : Env} (h : G_laws_toVersionSS E) (a0 : U) : E 107 [a0] =
 (U.lenOf false a0).bind fun n1 => if 0 ≤ (n1 : Int) ∧ (n1 : Int) ≤ (n1 : Int) ∧ (n1 : Int) * 24 ≤ 140737488355328 ∧ ((.nsl 5) : U).size = 1 then laws_toVersionSS_l0 E a0 (.int .i64 0) (List.replicate ((n1 : Int) : Int).toNat (.nsl 5)) else none := (h.is _ rfl).trans (laws_toVersionSS_eq E a0)

end Go.Proofs.Ytfdcdbkblkehcaa.Am
namespace Go.Proofs.Ytfdcdbkblkehcaa.Am
open Go
set_option linter.unusedVariables false
set_option maxRecDepth 100000

/- loop.example/g01924/laws.toStore -/
def laws_toStore_ac : AC :=
 (.seq (.region 0 [⟨some 1, .box false (.t 0), none⟩,
  ⟨some 2, .alloc (.agg [(.nsl 1)]), none⟩])
 (.seq (.region 0 [⟨some 3, .alloc (.agg [(.nsl 1)]), none⟩])
 (.seq (.region 0 [⟨some 4, .faddr 0 0 (.t 1), none⟩,
  ⟨some 5, .load false 1 (.t 4), none⟩,
  ⟨some 6, .call false 107 [(.t 5)], none⟩,
  ⟨some 7, .faddr 0 0 (.t 3), none⟩,
  ⟨none, .store 1 (.t 7) (.t 6), none⟩])
 (.seq (.region 0 [⟨some 8, .load true 1 (.t 3), none⟩,
  ⟨none, .store 1 (.t 2) (.t 8), none⟩])
 .ret))))

theorem laws_toStore_eq (E : Env) (a0 : U) : run E laws_toStore_ac [(2, some (true, 1))] [a0] =
 U.noTup a0 fun x1 => U.asAgg x1 fun us2 => if 0 = sizes (us2.take 0) then (us2[0]?).bind fun e3 => U.asVar false 1 e3 fun e4 => (E 107 [e4]).bind fun t5 => if storable (.val t5) = true ∧ t5.size = 1 then U.asVar true 1 (.agg [t5]) fun e6 => if storable (.val e6) = true ∧ e6.size = 1 then U.asVar true 1 e6 fun e7 => some e7 else none else none else none := by kernel_rfl

/-- In the environment E: this function and those that it calls. -/
structure G_laws_toStore (E : Env) : Prop where
  is : Is E 93 1 laws_toStore_ac [(2, some (true, 1))]
  c_laws_toVersionSS : G_laws_toVersionSS E
theorem laws_toStore_E {E : Env} (h : G_laws_toStore E) (a0 : U) : E 93 [a0] =
 U.noTup a0 fun x1 => U.asAgg x1 fun us2 => if 0 = sizes (us2.take 0) then (us2[0]?).bind fun e3 => U.asVar false 1 e3 fun e4 => (E 107 [e4]).bind fun t5 => if storable (.val t5) = true ∧ t5.size = 1 then U.asVar true 1 (.agg [t5]) fun e6 => if storable (.val e6) = true ∧ e6.size = 1 then U.asVar true 1 e6 fun e7 => some e7 else none else none else none := (h.is _ rfl).trans (laws_toStore_eq E a0)

end Go.Proofs.Ytfdcdbkblkehcaa.Am
namespace Go.Proofs.Ytfdcdbkblkehcaa.Am
open Go
set_option linter.unusedVariables false
set_option maxRecDepth 100000

/- loop.example/g01924/laws.toReadMark -/
def laws_toReadMark_ac : AC :=
 (.seq (.region 0 [⟨some 1, .box false (.t 0), none⟩,
  ⟨some 2, .alloc (.agg [(.int .i64 0), (.int .i64 0)]), none⟩])
 (.seq (.region 0 [⟨some 3, .alloc (.agg [(.int .i64 0), (.int .i64 0)]), none⟩])
 (.seq (.region 0 [⟨some 4, .faddr 0 0 (.t 1), none⟩,
  ⟨some 5, .load false 1 (.t 4), none⟩,
  ⟨some 6, .faddr 0 0 (.t 3), none⟩,
  ⟨none, .store 1 (.t 6) (.t 5), none⟩])
 (.seq (.region 0 [⟨some 7, .faddr 1 1 (.t 1), none⟩,
  ⟨some 8, .load false 1 (.t 7), none⟩,
  ⟨some 9, .faddr 1 1 (.t 3), none⟩,
  ⟨none, .store 1 (.t 9) (.t 8), none⟩])
 (.seq (.region 0 [⟨some 10, .load true 2 (.t 3), none⟩,
  ⟨none, .store 2 (.t 2) (.t 10), none⟩])
 .ret)))))

theorem laws_toReadMark_eq (E : Env) (a0 : U) : run E laws_toReadMark_ac [(2, some (true, 2))] [a0] =
 U.noTup a0 fun x1 => U.asAgg x1 fun us2 => if 0 = sizes (us2.take 0) then (us2[0]?).bind fun e3 => U.asVar false 1 e3 fun e4 => if storable (.val e4) = true ∧ e4.size = 1 then U.asAgg x1 fun us5 => if 1 = sizes (us5.take 1) then (us5[1]?).bind fun e6 => U.asVar false 1 e6 fun e7 => if storable (.val e7) = true ∧ e7.size = 1 then if 1 = sizes [e4] then U.asVar true 2 (.agg [e4, e7]) fun e8 => if storable (.val e8) = true ∧ e8.size = 2 then U.asVar true 2 e8 fun e9 => some e9 else none else none else none else none else none else none := by kernel_rfl

/-- In the environment E: this function and those that it calls. -/
structure G_laws_toReadMark (E : Env) : Prop where
  is : Is E 29 1 laws_toReadMark_ac [(2, some (true, 2))]
theorem laws_toReadMark_E {E : Env} (h : G_laws_toReadMark E) (a0 : U) : E 29 [a0] =
 U.noTup a0 fun x1 => U.asAgg x1 fun us2 => if 0 = sizes (us2.take 0) then (us2[0]?).bind fun e3 => U.asVar false 1 e3 fun e4 => if storable (.val e4) = true ∧ e4.size = 1 then U.asAgg x1 fun us5 => if 1 = sizes (us5.take 1) then (us5[1]?).bind fun e6 => U.asVar false 1 e6 fun e7 => if storable (.val e7) = true ∧ e7.size = 1 then if 1 = sizes [e4] then U.asVar true 2 (.agg [e4, e7]) fun e8 => if storable (.val e8) = true ∧ e8.size = 2 then U.asVar true 2 e8 fun e9 => some e9 else none else none else none else none else none else none := (h.is _ rfl).trans (laws_toReadMark_eq E a0)

end Go.Proofs.Ytfdcdbkblkehcaa.Am
namespace Go.Proofs.Ytfdcdbkblkehcaa.Am
open Go
set_option linter.unusedVariables false
set_option maxRecDepth 100000

/- loop.example/g01924/laws.toReadMarkS -/
def laws_toReadMarkS_b0 : AC :=
 (.seq (.seq (.region 0 [⟨some 8, .mv (.t 4), none⟩,
  ⟨some 9, .mv (.t 0), none⟩,
  ⟨some 10, .len false (.t 9), none⟩,
  ⟨some 11, .bin .lss (.t 8) (.t 10), none⟩])
 (.cond (.t 11) .skip (.exit 0)))
 (.seq (.block 1 (.region 0 [⟨some 14, .mv (.t 3), none⟩,
  ⟨some 15, .mv (.t 4), none⟩,
  ⟨some 16, .mv (.t 0), none⟩,
  ⟨some 17, .mv (.t 4), none⟩,
  ⟨some 18, .iaddr 2 (.t 16) (.t 17), none⟩,
  ⟨some 19, .load true 2 (.t 18), none⟩,
  ⟨some 20, .call false 29 [(.t 19)], none⟩,
  ⟨some 21, .iaddr 2 (.t 14) (.t 15), none⟩,
  ⟨none, .store 2 (.t 21) (.t 20), none⟩]))
 (.region 0 [⟨some 12, .mv (.t 4), none⟩,
  ⟨some 13, .bin .add (.t 12) (.c (.int .i64 1)), none⟩,
  ⟨some 4, .mv (.t 13), none⟩])))
def laws_toReadMarkS_r0 : AC :=
 (.seq (.region 0 [⟨some 22, .mv (.t 3), none⟩,
  ⟨some 2, .mv (.t 22), none⟩])
 .ret)
def laws_toReadMarkS_ac : AC :=
 (.seq (.region 0 [⟨some 2, .mv (.c (.nsl 2)), none⟩])
 (.seq (.region 0 [⟨some 5, .mv (.t 0), none⟩,
  ⟨some 6, .len false (.t 5), none⟩,
  ⟨some 7, .mkslice 2 16 (.agg [(.int .i64 0), (.int .i64 0)]) (.t 6) (.t 6), none⟩,
  ⟨some 3, .mv (.t 7), none⟩])
 (.seq (.seq (.region 0 [⟨some 4, .mv (.c (.int .i64 0)), none⟩])
 (.block 0 (.loop ⟨[0, 4], [(3, 2)], []⟩ laws_toReadMarkS_b0)))
 laws_toReadMarkS_r0)))
noncomputable def laws_toReadMarkS_l0 (E : Env) (x0 : U) (x4 : U) (c3 : List U) : Option U := loopK (roundOf E ⟨[0, 4], [(3, 2)], []⟩ laws_toReadMarkS_b0 (blockK 0 (seqK (fun s => exec E laws_toReadMarkS_r0 s (finish [(2, none)])) (finish [(2, none)])))) ([.val x0, .val x4], [.arr 2 c3])
theorem laws_toReadMarkS_eq (E : Env) (a0 : U) : run E laws_toReadMarkS_ac [(2, none)] [a0] =
 (U.lenOf false a0).bind fun n1 => if 0 ≤ (n1 : Int) ∧ (n1 : Int) ≤ (n1 : Int) ∧ (n1 : Int) * 16 ≤ 140737488355328 ∧ ((.agg [(.int .i64 0), (.int .i64 0)]) : U).size = 2 then laws_toReadMarkS_l0 E a0 (.int .i64 0) (List.replicate ((n1 : Int) : Int).toNat (.agg [(.int .i64 0), (.int .i64 0)])) else none := by kernel_rfl
theorem laws_toReadMarkS_l0_eq (E : Env) (x0 : U) (x4 : U) (c3 : List U) : laws_toReadMarkS_l0 E x0 x4 c3 =
 (U.lenOf false x0).bind fun n2 => (U.bin .lss x4 (.int .i64 (n2 : Int))).bind fun t3 => U.asBool t3
 (U.asInt x4 fun n4 => U.elemAt 2 x0 n4 fun e5 => U.asVar true 2 e5 fun e6 => (E 29 [e6]).bind fun t7 => U.asInt x4 fun n8 => if 2 = 2 ∧ 2 = 2 ∧ 0 ≤ n8 ∧ n8 < ((c3).length : Int) then if storable (.val t7) = true ∧ t7.size = 2 then if 2 = 2 then (c3[(n8 : Int).toNat]?).bind fun e9 => if e9.size = 2 then (U.bin .add x4 (.int .i64 1)).bind fun t10 => laws_toReadMarkS_l0 E x0 t10 (c3.set (n8 : Int).toNat t7) else none else none else none else none)
 (some (.sl 2 c3)) :=
 (loop_eq E _ _ _ _).trans (by kernel_rfl)

/-- In the environment E: this function and those that it calls. -/
structure G_laws_toReadMarkS (E : Env) : Prop where
  is : Is E 28 1 laws_toReadMarkS_ac [(2, none)]
  c_laws_toReadMark : G_laws_toReadMark E
theorem laws_toReadMarkS_E {E : Env} (h : G_laws_toReadMarkS E) (a0 : U) : E 28 [a0] =
 (U.lenOf false a0).bind fun n1 => if 0 ≤ (n1 : Int) ∧ (n1 : Int) ≤ (n1 : Int) ∧ (n1 : Int) * 16 ≤ 140737488355328 ∧ ((.agg [(.int .i64 0), (.int .i64 0)]) : U).size = 2 then laws_toReadMarkS_l0 E a0 (.int .i64 0) (List.replicate ((n1 : Int) : Int).toNat (.agg [(.int .i64 0), (.int .i64 0)])) else none := (h.is _ rfl).trans (laws_toReadMarkS_eq E a0)

end Go.Proofs.Ytfdcdbkblkehcaa.Am
namespace Go.Proofs.Ytfdcdbkblkehcaa.Am
open Go
set_option linter.unusedVariables false
set_option maxRecDepth 100000

/- loop.example/g01924/laws.toWrite -/
def laws_toWrite_ac : AC :=
 (.seq (.region 0 [⟨some 1, .box false (.t 0), none⟩,
  ⟨some 2, .alloc (.agg [(.int .i64 0), (.int .i64 0)]), none⟩])
 (.seq (.region 0 [⟨some 3, .alloc (.agg [(.int .i64 0), (.int .i64 0)]), none⟩])
 (.seq (.region 0 [⟨some 4, .faddr 0 0 (.t 1), none⟩,
  ⟨some 5, .load false 1 (.t 4), none⟩,
  ⟨some 6, .faddr 0 0 (.t 3), none⟩,
  ⟨none, .store 1 (.t 6) (.t 5), none⟩])
 (.seq (.region 0 [⟨some 7, .faddr 1 1 (.t 1), none⟩,
  ⟨some 8, .load false 1 (.t 7), none⟩,
  ⟨some 9, .faddr 1 1 (.t 3), none⟩,
  ⟨none, .store 1 (.t 9) (.t 8), none⟩])
 (.seq (.region 0 [⟨some 10, .load true 2 (.t 3), none⟩,
  ⟨none, .store 2 (.t 2) (.t 10), none⟩])
 .ret)))))

theorem laws_toWrite_eq (E : Env) (a0 : U) : run E laws_toWrite_ac [(2, some (true, 2))] [a0] =
 U.noTup a0 fun x1 => U.asAgg x1 fun us2 => if 0 = sizes (us2.take 0) then (us2[0]?).bind fun e3 => U.asVar false 1 e3 fun e4 => if storable (.val e4) = true ∧ e4.size = 1 then U.asAgg x1 fun us5 => if 1 = sizes (us5.take 1) then (us5[1]?).bind fun e6 => U.asVar false 1 e6 fun e7 => if storable (.val e7) = true ∧ e7.size = 1 then if 1 = sizes [e4] then U.asVar true 2 (.agg [e4, e7]) fun e8 => if storable (.val e8) = true ∧ e8.size = 2 then U.asVar true 2 e8 fun e9 => some e9 else none else none else none else none else none else none := by kernel_rfl

/-- In the environment E: this function and those that it calls. -/
structure G_laws_toWrite (E : Env) : Prop where
  is : Is E 30 1 laws_toWrite_ac [(2, some (true, 2))]
theorem laws_toWrite_E {E : Env} (h : G_laws_toWrite E) (a0 : U) : E 30 [a0] =
 U.noTup a0 fun x1 => U.asAgg x1 fun us2 => if 0 = sizes (us2.take 0) then (us2[0]?).bind fun e3 => U.asVar false 1 e3 fun e4 => if storable (.val e4) = true ∧ e4.size = 1 then U.asAgg x1 fun us5 => if 1 = sizes (us5.take 1) then (us5[1]?).bind fun e6 => U.asVar false 1 e6 fun e7 => if storable (.val e7) = true ∧ e7.size = 1 then if 1 = sizes [e4] then U.asVar true 2 (.agg [e4, e7]) fun e8 => if storable (.val e8) = true ∧ e8.size = 2 then U.asVar true 2 e8 fun e9 => some e9 else none else none else none else none else none else none := (h.is _ rfl).trans (laws_toWrite_eq E a0)

end Go.Proofs.Ytfdcdbkblkehcaa.Am
namespace Go.Proofs.Ytfdcdbkblkehcaa.Am
open Go
set_option linter.unusedVariables false
set_option maxRecDepth 100000

/- loop.example/g01924/laws.toWriteS -/
def laws_toWriteS_b0 : AC :=
 (.seq (.seq (.region 0 [⟨some 8, .mv (.t 4), none⟩,
  ⟨some 9, .mv (.t 0), none⟩,
  ⟨some 10, .len false (.t 9), none⟩,
  ⟨some 11, .bin .lss (.t 8) (.t 10), none⟩])
 (.cond (.t 11) .skip (.exit 0)))
 (.seq (.block 1 (.region 0 [⟨some 14, .mv (.t 3), none⟩,
  ⟨some 15, .mv (.t 4), none⟩,
  ⟨some 16, .mv (.t 0), none⟩,
  ⟨some 17, .mv (.t 4), none⟩,
  ⟨some 18, .iaddr 2 (.t 16) (.t 17), none⟩,
  ⟨some 19, .load true 2 (.t 18), none⟩,
  ⟨some 20, .call false 30 [(.t 19)], none⟩,
  ⟨some 21, .iaddr 2 (.t 14) (.t 15), none⟩,
  ⟨none, .store 2 (.t 21) (.t 20), none⟩]))
 (.region 0 [⟨some 12, .mv (.t 4), none⟩,
  ⟨some 13, .bin .add (.t 12) (.c (.int .i64 1)), none⟩,
  ⟨some 4, .mv (.t 13), none⟩])))
def laws_toWriteS_r0 : AC :=
 (.seq (.region 0 [⟨some 22, .mv (.t 3), none⟩,
  ⟨some 2, .mv (.t 22), none⟩])
 .ret)
def laws_toWriteS_ac : AC :=
 (.seq (.region 0 [⟨some 2, .mv (.c (.nsl 2)), none⟩])
 (.seq (.region 0 [⟨some 5, .mv (.t 0), none⟩,
  ⟨some 6, .len false (.t 5), none⟩,
  ⟨some 7, .mkslice 2 16 (.agg [(.int .i64 0), (.int .i64 0)]) (.t 6) (.t 6), none⟩,
  ⟨some 3, .mv (.t 7), none⟩])
 (.seq (.seq (.region 0 [⟨some 4, .mv (.c (.int .i64 0)), none⟩])
 (.block 0 (.loop ⟨[0, 4], [(3, 2)], []⟩ laws_toWriteS_b0)))
 laws_toWriteS_r0)))
noncomputable def laws_toWriteS_l0 (E : Env) (x0 : U) (x4 : U) (c3 : List U) : Option U := loopK (roundOf E ⟨[0, 4], [(3, 2)], []⟩ laws_toWriteS_b0 (blockK 0 (seqK (fun s => exec E laws_toWriteS_r0 s (finish [(2, none)])) (finish [(2, none)])))) ([.val x0, .val x4], [.arr 2 c3])
theorem laws_toWriteS_eq (E : Env) (a0 : U) : run E laws_toWriteS_ac [(2, none)] [a0] =
 (U.lenOf false a0).bind fun n1 => if 0 ≤ (n1 : Int) ∧ (n1 : Int) ≤ (n1 : Int) ∧ (n1 : Int) * 16 ≤ 140737488355328 ∧ ((.agg [(.int .i64 0), (.int .i64 0)]) : U).size = 2 then laws_toWriteS_l0 E a0 (.int .i64 0) (List.replicate ((n1 : Int) : Int).toNat (.agg [(.int .i64 0), (.int .i64 0)])) else none := by kernel_rfl
theorem laws_toWriteS_l0_eq (E : Env) (x0 : U) (x4 : U) (c3 : List U) : laws_toWriteS_l0 E x0 x4 c3 =
 (U.lenOf false x0).bind fun n2 => (U.bin .lss x4 (.int .i64 (n2 : Int))).bind fun t3 => U.asBool t3
 (U.asInt x4 fun n4 => U.elemAt 2 x0 n4 fun e5 => U.asVar true 2 e5 fun e6 => (E 30 [e6]).bind fun t7 => U.asInt x4 fun n8 => if 2 = 2 ∧ 2 = 2 ∧ 0 ≤ n8 ∧ n8 < ((c3).length : Int) then if storable (.val t7) = true ∧ t7.size = 2 then if 2 = 2 then (c3[(n8 : Int).toNat]?).bind fun e9 => if e9.size = 2 then (U.bin .add x4 (.int .i64 1)).bind fun t10 => laws_toWriteS_l0 E x0 t10 (c3.set (n8 : Int).toNat t7) else none else none else none else none)
 (some (.sl 2 c3)) :=
 (loop_eq E _ _ _ _).trans (by kernel_rfl)

/-- In the environment E: this function and those that it calls. -/
structure G_laws_toWriteS (E : Env) : Prop where
  is : Is E 27 1 laws_toWriteS_ac [(2, none)]
  c_laws_toWrite : G_laws_toWrite E
theorem laws_toWriteS_E {E : Env} (h : G_laws_toWriteS E) (a0 : U) : E 27 [a0] =
 (U.lenOf false a0).bind fun n1 => if 0 ≤ (n1 : Int) ∧ (n1 : Int) ≤ (n1 : Int) ∧ (n1 : Int) * 16 ≤ 140737488355328 ∧ ((.agg [(.int .i64 0), (.int .i64 0)]) : U).size = 2 then laws_toWriteS_l0 E a0 (.int .i64 0) (List.replicate ((n1 : Int) : Int).toNat (.agg [(.int .i64 0), (.int .i64 0)])) else none := (h.is _ rfl).trans (laws_toWriteS_eq E a0)

end Go.Proofs.Ytfdcdbkblkehcaa.Am
namespace Go.Proofs.Ytfdcdbkblkehcaa.Am
open Go
set_option linter.unusedVariables false
set_option maxRecDepth 100000

/- loop.example/g01924/laws.toTransaction -/
def laws_toTransaction_ac : AC :=
 (.seq (.region 0 [⟨some 1, .box false (.t 0), none⟩,
  ⟨some 2, .alloc (.agg [(.int .i64 0), (.int .i64 0), (.int .i64 0), (.int .i64 0), (.int .i64 0), (.int .i64 0), (.int .i64 0), (.nsl 2), (.nsl 2)]), none⟩])
 (.seq (.region 0 [⟨some 3, .alloc (.agg [(.int .i64 0), (.int .i64 0), (.int .i64 0), (.int .i64 0), (.int .i64 0), (.int .i64 0), (.int .i64 0), (.nsl 2), (.nsl 2)]), none⟩])
 (.seq (.region 0 [⟨some 4, .faddr 0 0 (.t 1), none⟩,
  ⟨some 5, .load false 1 (.t 4), none⟩,
  ⟨some 6, .faddr 0 0 (.t 3), none⟩,
  ⟨none, .store 1 (.t 6) (.t 5), none⟩])
 (.seq (.region 0 [⟨some 7, .faddr 1 1 (.t 1), none⟩,
  ⟨some 8, .load false 1 (.t 7), none⟩,
  ⟨some 9, .faddr 1 1 (.t 3), none⟩,
  ⟨none, .store 1 (.t 9) (.t 8), none⟩])
 (.seq (.region 0 [⟨some 10, .faddr 2 2 (.t 1), none⟩,
  ⟨some 11, .load false 1 (.t 10), none⟩,
  ⟨some 12, .faddr 2 2 (.t 3), none⟩,
  ⟨none, .store 1 (.t 12) (.t 11), none⟩])
 (.seq (.region 0 [⟨some 13, .faddr 3 3 (.t 1), none⟩,
  ⟨some 14, .load false 1 (.t 13), none⟩,
  ⟨some 15, .faddr 3 3 (.t 3), none⟩,
  ⟨none, .store 1 (.t 15) (.t 14), none⟩])
 (.seq (.region 0 [⟨some 16, .faddr 4 4 (.t 1), none⟩,
  ⟨some 17, .load false 1 (.t 16), none⟩,
  ⟨some 18, .faddr 4 4 (.t 3), none⟩,
  ⟨none, .store 1 (.t 18) (.t 17), none⟩])
 (.seq (.region 0 [⟨some 19, .faddr 5 5 (.t 1), none⟩,
  ⟨some 20, .load false 1 (.t 19), none⟩,
  ⟨some 21, .faddr 5 5 (.t 3), none⟩,
  ⟨none, .store 1 (.t 21) (.t 20), none⟩])
 (.seq (.region 0 [⟨some 22, .faddr 6 6 (.t 1), none⟩,
  ⟨some 23, .load false 1 (.t 22), none⟩,
  ⟨some 24, .faddr 6 6 (.t 3), none⟩,
  ⟨none, .store 1 (.t 24) (.t 23), none⟩])
 (.seq (.region 0 [⟨some 25, .faddr 7 7 (.t 1), none⟩,
  ⟨some 26, .load false 1 (.t 25), none⟩,
  ⟨some 27, .call false 28 [(.t 26)], none⟩,
  ⟨some 28, .faddr 7 7 (.t 3), none⟩,
  ⟨none, .store 1 (.t 28) (.t 27), none⟩])
 (.seq (.region 0 [⟨some 29, .faddr 8 8 (.t 1), none⟩,
  ⟨some 30, .load false 1 (.t 29), none⟩,
  ⟨some 31, .call false 27 [(.t 30)], none⟩,
  ⟨some 32, .faddr 8 8 (.t 3), none⟩,
  ⟨none, .store 1 (.t 32) (.t 31), none⟩])
 (.seq (.region 0 [⟨some 33, .load true 9 (.t 3), none⟩,
  ⟨none, .store 9 (.t 2) (.t 33), none⟩])
 .ret))))))))))))

theorem laws_toTransaction_eq (E : Env) (a0 : U) : run E laws_toTransaction_ac [(2, some (true, 9))] [a0] =
 U.noTup a0 fun x1 => U.asAgg x1 fun us2 => if 0 = sizes (us2.take 0) then (us2[0]?).bind fun e3 => U.asVar false 1 e3 fun e4 => if storable (.val e4) = true ∧ e4.size = 1 then U.asAgg x1 fun us5 => if 1 = sizes (us5.take 1) then (us5[1]?).bind fun e6 => U.asVar false 1 e6 fun e7 => if storable (.val e7) = true ∧ e7.size = 1 then if 1 = sizes [e4] then U.asAgg x1 fun us8 => if 2 = sizes (us8.take 2) then (us8[2]?).bind fun e9 => U.asVar false 1 e9 fun e10 => if storable (.val e10) = true ∧ e10.size = 1 then if 2 = sizes [e4, e7] then U.asAgg x1 fun us11 => if 3 = sizes (us11.take 3) then (us11[3]?).bind fun e12 => U.asVar false 1 e12 fun e13 => if storable (.val e13) = true ∧ e13.size = 1 then if 3 = sizes [e4, e7, e10] then U.asAgg x1 fun us14 => if 4 = sizes (us14.take 4) then (us14[4]?).bind fun e15 => U.asVar false 1 e15 fun e16 => if storable (.val e16) = true ∧ e16.size = 1 then if 4 = sizes [e4, e7, e10, e13] then U.asAgg x1 fun us17 => if 5 = sizes (us17.take 5) then (us17[5]?).bind fun e18 => U.asVar false 1 e18 fun e19 => if storable (.val e19) = true ∧ e19.size = 1 then if 5 = sizes [e4, e7, e10, e13, e16] then U.asAgg x1 fun us20 => if 6 = sizes (us20.take 6) then (us20[6]?).bind fun e21 => U.asVar false 1 e21 fun e22 => if storable (.val e22) = true ∧ e22.size = 1 then if 6 = sizes [e4, e7, e10, e13, e16, e19] then U.asAgg x1 fun us23 => if 7 = sizes (us23.take 7) then (us23[7]?).bind fun e24 => U.asVar false 1 e24 fun e25 => (E 28 [e25]).bind fun t26 => if storable (.val t26) = true ∧ t26.size = 1 then if 7 = sizes [e4, e7, e10, e13, e16, e19, e22] then U.asAgg x1 fun us27 => if 8 = sizes (us27.take 8) then (us27[8]?).bind fun e28 => U.asVar false 1 e28 fun e29 => (E 27 [e29]).bind fun t30 => if storable (.val t30) = true ∧ t30.size = 1 then if 8 = sizes [e4, e7, e10, e13, e16, e19, e22, t26] then U.asVar true 9 (.agg [e4, e7, e10, e13, e16, e19, e22, t26, t30]) fun e31 => if storable (.val e31) = true ∧ e31.size = 9 then U.asVar true 9 e31 fun e32 => some e32 else none else none else none else none else none else none else none else none else none else none else none else none else none else none else none else none else none else none else none else none else none else none else none else none else none else none else none := by kernel_rfl

/-- In the environment E: this function and those that it calls. -/
structure G_laws_toTransaction (E : Env) : Prop where
  is : Is E 145 1 laws_toTransaction_ac [(2, some (true, 9))]
  c_laws_toReadMarkS : G_laws_toReadMarkS E
  c_laws_toWriteS : G_laws_toWriteS E
theorem laws_toTransaction_E {E : Env} (h : G_laws_toTransaction E) (a0 : U) : E 145 [a0] =
 U.noTup a0 fun x1 => U.asAgg x1 fun us2 => if 0 = sizes (us2.take 0) then (us2[0]?).bind fun e3 => U.asVar false 1 e3 fun e4 => if storable (.val e4) = true ∧ e4.size = 1 then U.asAgg x1 fun us5 => if 1 = sizes (us5.take 1) then (us5[1]?).bind fun e6 => U.asVar false 1 e6 fun e7 => if storable (.val e7) = true ∧ e7.size = 1 then if 1 = sizes [e4] then U.asAgg x1 fun us8 => if 2 = sizes (us8.take 2) then (us8[2]?).bind fun e9 => U.asVar false 1 e9 fun e10 => if storable (.val e10) = true ∧ e10.size = 1 then if 2 = sizes [e4, e7] then U.asAgg x1 fun us11 => if 3 = sizes (us11.take 3) then (us11[3]?).bind fun e12 => U.asVar false 1 e12 fun e13 => if storable (.val e13) = true ∧ e13.size = 1 then if 3 = sizes [e4, e7, e10] then U.asAgg x1 fun us14 => if 4 = sizes (us14.take 4) then (us14[4]?).bind fun e15 => U.asVar false 1 e15 fun e16 => if storable (.val e16) = true ∧ e16.size = 1 then if 4 = sizes [e4, e7, e10, e13] then U.asAgg x1 fun us17 => if 5 = sizes (us17.take 5) then (us17[5]?).bind fun e18 => U.asVar false 1 e18 fun e19 => if storable (.val e19) = true ∧ e19.size = 1 then if 5 = sizes [e4, e7, e10, e13, e16] then U.asAgg x1 fun us20 => if 6 = sizes (us20.take 6) then (us20[6]?).bind fun e21 => U.asVar false 1 e21 fun e22 => if storable (.val e22) = true ∧ e22.size = 1 then if 6 = sizes [e4, e7, e10, e13, e16, e19] then U.asAgg x1 fun us23 => if 7 = sizes (us23.take 7) then (us23[7]?).bind fun e24 => U.asVar false 1 e24 fun e25 => (E 28 [e25]).bind fun t26 => if storable (.val t26) = true ∧ t26.size = 1 then if 7 = sizes [e4, e7, e10, e13, e16, e19, e22] then U.asAgg x1 fun us27 => if 8 = sizes (us27.take 8) then (us27[8]?).bind fun e28 => U.asVar false 1 e28 fun e29 => (E 27 [e29]).bind fun t30 => if storable (.val t30) = true ∧ t30.size = 1 then if 8 = sizes [e4, e7, e10, e13, e16, e19, e22, t26] then U.asVar true 9 (.agg [e4, e7, e10, e13, e16, e19, e22, t26, t30]) fun e31 => if storable (.val e31) = true ∧ e31.size = 9 then U.asVar true 9 e31 fun e32 => some e32 else none else none else none else none else none else none else none else none else none else none else none else none else none else none else none else none else none else none else none else none else none else none else none else none else none else none else none := (h.is _ rfl).trans (laws_toTransaction_eq E a0)

end Go.Proofs.Ytfdcdbkblkehcaa.Am
namespace Go.Proofs.Ytfdcdbkblkehcaa.Am
open Go
set_option linter.unusedVariables false
set_option maxRecDepth 100000

/- loop.example/g01924/laws.toTransactionS -/
def laws_toTransactionS_b0 : AC :=
 (.seq (.seq (.region 0 [⟨some 8, .mv (.t 4), none⟩,
  ⟨some 9, .mv (.t 0), none⟩,
  ⟨some 10, .len false (.t 9), none⟩,
  ⟨some 11, .bin .lss (.t 8) (.t 10), none⟩])
 (.cond (.t 11) .skip (.exit 0)))
 (.seq (.block 1 (.region 0 [⟨some 14, .mv (.t 3), none⟩,
  ⟨some 15, .mv (.t 4), none⟩,
  ⟨some 16, .mv (.t 0), none⟩,
  ⟨some 17, .mv (.t 4), none⟩,
  ⟨some 18, .iaddr 9 (.t 16) (.t 17), none⟩,
  ⟨some 19, .load true 9 (.t 18), none⟩,
  ⟨some 20, .call false 145 [(.t 19)], none⟩,
  ⟨some 21, .iaddr 9 (.t 14) (.t 15), none⟩,
  ⟨none, .store 9 (.t 21) (.t 20), none⟩]))
 (.region 0 [⟨some 12, .mv (.t 4), none⟩,
  ⟨some 13, .bin .add (.t 12) (.c (.int .i64 1)), none⟩,
  ⟨some 4, .mv (.t 13), none⟩])))
def laws_toTransactionS_r0 : AC :=
 (.seq (.region 0 [⟨some 22, .mv (.t 3), none⟩,
  ⟨some 2, .mv (.t 22), none⟩])
 .ret)
def laws_toTransactionS_ac : AC :=
 (.seq (.region 0 [⟨some 2, .mv (.c (.nsl 9)), none⟩])
 (.seq (.region 0 [⟨some 5, .mv (.t 0), none⟩,
  ⟨some 6, .len false (.t 5), none⟩,
  ⟨some 7, .mkslice 9 104 (.agg [(.int .i64 0), (.int .i64 0), (.int .i64 0), (.int .i64 0), (.int .i64 0), (.int .i64 0), (.int .i64 0), (.nsl 2), (.nsl 2)]) (.t 6) (.t 6), none⟩,
  ⟨some 3, .mv (.t 7), none⟩])
 (.seq (.seq (.region 0 [⟨some 4, .mv (.c (.int .i64 0)), none⟩])
 (.block 0 (.loop ⟨[0, 4], [(3, 9)], []⟩ laws_toTransactionS_b0)))
 laws_toTransactionS_r0)))
noncomputable def laws_toTransactionS_l0 (E : Env) (x0 : U) (x4 : U) (c3 : List U) : Option U := loopK (roundOf E ⟨[0, 4], [(3, 9)], []⟩ laws_toTransactionS_b0 (blockK 0 (seqK (fun s => exec E laws_toTransactionS_r0 s (finish [(2, none)])) (finish [(2, none)])))) ([.val x0, .val x4], [.arr 9 c3])
theorem laws_toTransactionS_eq (E : Env) (a0 : U) : run E laws_toTransactionS_ac [(2, none)] [a0] =
 (U.lenOf false a0).bind fun n1 => if 0 ≤ (n1 : Int) ∧ (n1 : Int) ≤ (n1 : Int) ∧ (n1 : Int) * 104 ≤ 140737488355328 ∧ ((.agg [(.int .i64 0), (.int .i64 0), (.int .i64 0), (.int .i64 0), (.int .i64 0), (.int .i64 0), (.int .i64 0), (.nsl 2), (.nsl 2)]) : U).size = 9 then laws_toTransactionS_l0 E a0 (.int .i64 0) (List.replicate ((n1 : Int) : Int).toNat (.agg [(.int .i64 0), (.int .i64 0), (.int .i64 0), (.int .i64 0), (.int .i64 0), (.int .i64 0), (.int .i64 0), (.nsl 2), (.nsl 2)])) else none := by kernel_rfl
theorem laws_toTransactionS_l0_eq (E : Env) (x0 : U) (x4 : U) (c3 : List U) : laws_toTransactionS_l0 E x0 x4 c3 =
 (U.lenOf false x0).bind fun n2 => (U.bin .lss x4 (.int .i64 (n2 : Int))).bind fun t3 => U.asBool t3
 (U.asInt x4 fun n4 => U.elemAt 9 x0 n4 fun e5 => U.asVar true 9 e5 fun e6 => (E 145 [e6]).bind fun t7 => U.asInt x4 fun n8 => if 9 = 9 ∧ 9 = 9 ∧ 0 ≤ n8 ∧ n8 < ((c3).length : Int) then if storable (.val t7) = true ∧ t7.size = 9 then if 9 = 9 then (c3[(n8 : Int).toNat]?).bind fun e9 => if e9.size = 9 then (U.bin .add x4 (.int .i64 1)).bind fun t10 => laws_toTransactionS_l0 E x0 t10 (c3.set (n8 : Int).toNat t7) else none else none else none else none)
 (some (.sl 9 c3)) :=
 (loop_eq E _ _ _ _).trans (by kernel_rfl)

/-- In the environment E: this function and those that it calls. -/
structure G_laws_toTransactionS (E : Env) : Prop where
  is : Is E 144 1 laws_toTransactionS_ac [(2, none)]
  c_laws_toTransaction : G_laws_toTransaction E
theorem laws_toTransactionS_E {E : Env} (h : G_laws_toTransactionS E) (a0 : U) : E 144 [a0] =
 (U.lenOf false a0).bind fun n1 => if 0 ≤ (n1 : Int) ∧ (n1 : Int) ≤ (n1 : Int) ∧ (n1 : Int) * 104 ≤ 140737488355328 ∧ ((.agg [(.int .i64 0), (.int .i64 0), (.int .i64 0), (.int .i64 0), (.int .i64 0), (.int .i64 0), (.int .i64 0), (.nsl 2), (.nsl 2)]) : U).size = 9 then laws_toTransactionS_l0 E a0 (.int .i64 0) (List.replicate ((n1 : Int) : Int).toNat (.agg [(.int .i64 0), (.int .i64 0), (.int .i64 0), (.int .i64 0), (.int .i64 0), (.int .i64 0), (.int .i64 0), (.nsl 2), (.nsl 2)])) else none := (h.is _ rfl).trans (laws_toTransactionS_eq E a0)

end Go.Proofs.Ytfdcdbkblkehcaa.Am
namespace Go.Proofs.Ytfdcdbkblkehcaa.Am
open Go
set_option linter.unusedVariables false
set_option maxRecDepth 100000

/- loop.example/g01924/laws.toLock -/
def laws_toLock_ac : AC :=
 (.seq (.region 0 [⟨some 1, .box false (.t 0), none⟩,
  ⟨some 2, .alloc (.agg [(.int .i64 0), (.int .i64 0)]), none⟩])
 (.seq (.region 0 [⟨some 3, .alloc (.agg [(.int .i64 0), (.int .i64 0)]), none⟩])
 (.seq (.region 0 [⟨some 4, .faddr 0 0 (.t 1), none⟩,
  ⟨some 5, .load false 1 (.t 4), none⟩,
  ⟨some 6, .faddr 0 0 (.t 3), none⟩,
  ⟨none, .store 1 (.t 6) (.t 5), none⟩])
 (.seq (.region 0 [⟨some 7, .faddr 1 1 (.t 1), none⟩,
  ⟨some 8, .load false 1 (.t 7), none⟩,
  ⟨some 9, .faddr 1 1 (.t 3), none⟩,
  ⟨none, .store 1 (.t 9) (.t 8), none⟩])
 (.seq (.region 0 [⟨some 10, .load true 2 (.t 3), none⟩,
  ⟨none, .store 2 (.t 2) (.t 10), none⟩])
 .ret)))))

theorem laws_toLock_eq (E : Env) (a0 : U) : run E laws_toLock_ac [(2, some (true, 2))] [a0] =
 U.noTup a0 fun x1 => U.asAgg x1 fun us2 => if 0 = sizes (us2.take 0) then (us2[0]?).bind fun e3 => U.asVar false 1 e3 fun e4 => if storable (.val e4) = true ∧ e4.size = 1 then U.asAgg x1 fun us5 => if 1 = sizes (us5.take 1) then (us5[1]?).bind fun e6 => U.asVar false 1 e6 fun e7 => if storable (.val e7) = true ∧ e7.size = 1 then if 1 = sizes [e4] then U.asVar true 2 (.agg [e4, e7]) fun e8 => if storable (.val e8) = true ∧ e8.size = 2 then U.asVar true 2 e8 fun e9 => some e9 else none else none else none else none else none else none := by kernel_rfl

/-- In the environment E: this function and those that it calls. -/
structure G_laws_toLock (E : Env) : Prop where
  is : Is E 146 1 laws_toLock_ac [(2, some (true, 2))]
theorem laws_toLock_E {E : Env} (h : G_laws_toLock E) (a0 : U) : E 146 [a0] =
 U.noTup a0 fun x1 => U.asAgg x1 fun us2 => if 0 = sizes (us2.take 0) then (us2[0]?).bind fun e3 => U.asVar false 1 e3 fun e4 => if storable (.val e4) = true ∧ e4.size = 1 then U.asAgg x1 fun us5 => if 1 = sizes (us5.take 1) then (us5[1]?).bind fun e6 => U.asVar false 1 e6 fun e7 => if storable (.val e7) = true ∧ e7.size = 1 then if 1 = sizes [e4] then U.asVar true 2 (.agg [e4, e7]) fun e8 => if storable (.val e8) = true ∧ e8.size = 2 then U.asVar true 2 e8 fun e9 => some e9 else none else none else none else none else none else none := (h.is _ rfl).trans (laws_toLock_eq E a0)

end Go.Proofs.Ytfdcdbkblkehcaa.Am
namespace Go.Proofs.Ytfdcdbkblkehcaa.Am
open Go
set_option linter.unusedVariables false
set_option maxRecDepth 100000

/- loop.example/g01924/laws.toLockS -/
def laws_toLockS_b0 : AC :=
 (.seq (.seq (.region 0 [⟨some 8, .mv (.t 4), none⟩,
  ⟨some 9, .mv (.t 0), none⟩,
  ⟨some 10, .len false (.t 9), none⟩,
  ⟨some 11, .bin .lss (.t 8) (.t 10), none⟩])
 (.cond (.t 11) .skip (.exit 0)))
 (.seq (.block 1 (.region 0 [⟨some 14, .mv (.t 3), none⟩,
  ⟨some 15, .mv (.t 4), none⟩,
  ⟨some 16, .mv (.t 0), none⟩,
  ⟨some 17, .mv (.t 4), none⟩,
  ⟨some 18, .iaddr 2 (.t 16) (.t 17), none⟩,
  ⟨some 19, .load true 2 (.t 18), none⟩,
  ⟨some 20, .call false 146 [(.t 19)], none⟩,
  ⟨some 21, .iaddr 2 (.t 14) (.t 15), none⟩,
  ⟨none, .store 2 (.t 21) (.t 20), none⟩]))
 (.region 0 [⟨some 12, .mv (.t 4), none⟩,
  ⟨some 13, .bin .add (.t 12) (.c (.int .i64 1)), none⟩,
  ⟨some 4, .mv (.t 13), none⟩])))
def laws_toLockS_r0 : AC :=
 (.seq (.region 0 [⟨some 22, .mv (.t 3), none⟩,
  ⟨some 2, .mv (.t 22), none⟩])
 .ret)
def laws_toLockS_ac : AC :=
 (.seq (.region 0 [⟨some 2, .mv (.c (.nsl 2)), none⟩])
 (.seq (.region 0 [⟨some 5, .mv (.t 0), none⟩,
  ⟨some 6, .len false (.t 5), none⟩,
  ⟨some 7, .mkslice 2 16 (.agg [(.int .i64 0), (.int .i64 0)]) (.t 6) (.t 6), none⟩,
  ⟨some 3, .mv (.t 7), none⟩])
 (.seq (.seq (.region 0 [⟨some 4, .mv (.c (.int .i64 0)), none⟩])
 (.block 0 (.loop ⟨[0, 4], [(3, 2)], []⟩ laws_toLockS_b0)))
 laws_toLockS_r0)))
noncomputable def laws_toLockS_l0 (E : Env) (x0 : U) (x4 : U) (c3 : List U) : Option U := loopK (roundOf E ⟨[0, 4], [(3, 2)], []⟩ laws_toLockS_b0 (blockK 0 (seqK (fun s => exec E laws_toLockS_r0 s (finish [(2, none)])) (finish [(2, none)])))) ([.val x0, .val x4], [.arr 2 c3])
theorem laws_toLockS_eq (E : Env) (a0 : U) : run E laws_toLockS_ac [(2, none)] [a0] =
 (U.lenOf false a0).bind fun n1 => if 0 ≤ (n1 : Int) ∧ (n1 : Int) ≤ (n1 : Int) ∧ (n1 : Int) * 16 ≤ 140737488355328 ∧ ((.agg [(.int .i64 0), (.int .i64 0)]) : U).size = 2 then laws_toLockS_l0 E a0 (.int .i64 0) (List.replicate ((n1 : Int) : Int).toNat (.agg [(.int .i64 0), (.int .i64 0)])) else none := by kernel_rfl
theorem laws_toLockS_l0_eq (E : Env) (x0 : U) (x4 : U) (c3 : List U) : laws_toLockS_l0 E x0 x4 c3 =
 (U.lenOf false x0).bind fun n2 => (U.bin .lss x4 (.int .i64 (n2 : Int))).bind fun t3 => U.asBool t3
 (U.asInt x4 fun n4 => U.elemAt 2 x0 n4 fun e5 => U.asVar true 2 e5 fun e6 => (E 146 [e6]).bind fun t7 => U.asInt x4 fun n8 => if 2 = 2 ∧ 2 = 2 ∧ 0 ≤ n8 ∧ n8 < ((c3).length : Int) then if storable (.val t7) = true ∧ t7.size = 2 then if 2 = 2 then (c3[(n8 : Int).toNat]?).bind fun e9 => if e9.size = 2 then (U.bin .add x4 (.int .i64 1)).bind fun t10 => laws_toLockS_l0 E x0 t10 (c3.set (n8 : Int).toNat t7) else none else none else none else none)
 (some (.sl 2 c3)) :=
 (loop_eq E _ _ _ _).trans (by kernel_rfl)

/-- In the environment E: this function and those that it calls. -/
structure G_laws_toLockS (E : Env) : Prop where
  is : Is E 143 1 laws_toLockS_ac [(2, none)]
  c_laws_toLock : G_laws_toLock E
theorem laws_toLockS_E {E : Env} (h : G_laws_toLockS E) (a0 : U) : E 143 [a0] =
 (U.lenOf false a0).bind fun n1 => if 0 ≤ (n1 : Int) ∧ (n1 : Int) ≤ (n1 : Int) ∧ (n1 : Int) * 16 ≤ 140737488355328 ∧ ((.agg [(.int .i64 0), (.int .i64 0)]) : U).size = 2 then laws_toLockS_l0 E a0 (.int .i64 0) (List.replicate ((n1 : Int) : Int).toNat (.agg [(.int .i64 0), (.int .i64 0)])) else none := (h.is _ rfl).trans (laws_toLockS_eq E a0)

end Go.Proofs.Ytfdcdbkblkehcaa.Am
namespace Go.Proofs.Ytfdcdbkblkehcaa.Am
open Go
set_option linter.unusedVariables false
set_option maxRecDepth 100000

/- loop.example/g01924/laws.toWait -/
def laws_toWait_ac : AC :=
 (.seq (.region 0 [⟨some 1, .box false (.t 0), none⟩,
  ⟨some 2, .alloc (.agg [(.int .i64 0), (.int .i64 0)]), none⟩])
 (.seq (.region 0 [⟨some 3, .alloc (.agg [(.int .i64 0), (.int .i64 0)]), none⟩])
 (.seq (.region 0 [⟨some 4, .faddr 0 0 (.t 1), none⟩,
  ⟨some 5, .load false 1 (.t 4), none⟩,
  ⟨some 6, .faddr 0 0 (.t 3), none⟩,
  ⟨none, .store 1 (.t 6) (.t 5), none⟩])
 (.seq (.region 0 [⟨some 7, .faddr 1 1 (.t 1), none⟩,
  ⟨some 8, .load false 1 (.t 7), none⟩,
  ⟨some 9, .faddr 1 1 (.t 3), none⟩,
  ⟨none, .store 1 (.t 9) (.t 8), none⟩])
 (.seq (.region 0 [⟨some 10, .load true 2 (.t 3), none⟩,
  ⟨none, .store 2 (.t 2) (.t 10), none⟩])
 .ret)))))

theorem laws_toWait_eq (E : Env) (a0 : U) : run E laws_toWait_ac [(2, some (true, 2))] [a0] =
 U.noTup a0 fun x1 => U.asAgg x1 fun us2 => if 0 = sizes (us2.take 0) then (us2[0]?).bind fun e3 => U.asVar false 1 e3 fun e4 => if storable (.val e4) = true ∧ e4.size = 1 then U.asAgg x1 fun us5 => if 1 = sizes (us5.take 1) then (us5[1]?).bind fun e6 => U.asVar false 1 e6 fun e7 => if storable (.val e7) = true ∧ e7.size = 1 then if 1 = sizes [e4] then U.asVar true 2 (.agg [e4, e7]) fun e8 => if storable (.val e8) = true ∧ e8.size = 2 then U.asVar true 2 e8 fun e9 => some e9 else none else none else none else none else none else none := by kernel_rfl

/-- In the environment E: this function and those that it calls. -/
structure G_laws_toWait (E : Env) : Prop where
  is : Is E 147 1 laws_toWait_ac [(2, some (true, 2))]
theorem laws_toWait_E {E : Env} (h : G_laws_toWait E) (a0 : U) : E 147 [a0] =
 U.noTup a0 fun x1 => U.asAgg x1 fun us2 => if 0 = sizes (us2.take 0) then (us2[0]?).bind fun e3 => U.asVar false 1 e3 fun e4 => if storable (.val e4) = true ∧ e4.size = 1 then U.asAgg x1 fun us5 => if 1 = sizes (us5.take 1) then (us5[1]?).bind fun e6 => U.asVar false 1 e6 fun e7 => if storable (.val e7) = true ∧ e7.size = 1 then if 1 = sizes [e4] then U.asVar true 2 (.agg [e4, e7]) fun e8 => if storable (.val e8) = true ∧ e8.size = 2 then U.asVar true 2 e8 fun e9 => some e9 else none else none else none else none else none else none := (h.is _ rfl).trans (laws_toWait_eq E a0)

end Go.Proofs.Ytfdcdbkblkehcaa.Am
namespace Go.Proofs.Ytfdcdbkblkehcaa.Am
open Go
set_option linter.unusedVariables false
set_option maxRecDepth 100000

/- loop.example/g01924/laws.toWaitS -/
def laws_toWaitS_b0 : AC :=
 (.seq (.seq (.region 0 [⟨some 8, .mv (.t 4), none⟩,
  ⟨some 9, .mv (.t 0), none⟩,
  ⟨some 10, .len false (.t 9), none⟩,
  ⟨some 11, .bin .lss (.t 8) (.t 10), none⟩])
 (.cond (.t 11) .skip (.exit 0)))
 (.seq (.block 1 (.region 0 [⟨some 14, .mv (.t 3), none⟩,
  ⟨some 15, .mv (.t 4), none⟩,
  ⟨some 16, .mv (.t 0), none⟩,
  ⟨some 17, .mv (.t 4), none⟩,
  ⟨some 18, .iaddr 2 (.t 16) (.t 17), none⟩,
  ⟨some 19, .load true 2 (.t 18), none⟩,
  ⟨some 20, .call false 147 [(.t 19)], none⟩,
  ⟨some 21, .iaddr 2 (.t 14) (.t 15), none⟩,
  ⟨none, .store 2 (.t 21) (.t 20), none⟩]))
 (.region 0 [⟨some 12, .mv (.t 4), none⟩,
  ⟨some 13, .bin .add (.t 12) (.c (.int .i64 1)), none⟩,
  ⟨some 4, .mv (.t 13), none⟩])))
def laws_toWaitS_r0 : AC :=
 (.seq (.region 0 [⟨some 22, .mv (.t 3), none⟩,
  ⟨some 2, .mv (.t 22), none⟩])
 .ret)
def laws_toWaitS_ac : AC :=
 (.seq (.region 0 [⟨some 2, .mv (.c (.nsl 2)), none⟩])
 (.seq (.region 0 [⟨some 5, .mv (.t 0), none⟩,
  ⟨some 6, .len false (.t 5), none⟩,
  ⟨some 7, .mkslice 2 16 (.agg [(.int .i64 0), (.int .i64 0)]) (.t 6) (.t 6), none⟩,
  ⟨some 3, .mv (.t 7), none⟩])
 (.seq (.seq (.region 0 [⟨some 4, .mv (.c (.int .i64 0)), none⟩])
 (.block 0 (.loop ⟨[0, 4], [(3, 2)], []⟩ laws_toWaitS_b0)))
 laws_toWaitS_r0)))
noncomputable def laws_toWaitS_l0 (E : Env) (x0 : U) (x4 : U) (c3 : List U) : Option U := loopK (roundOf E ⟨[0, 4], [(3, 2)], []⟩ laws_toWaitS_b0 (blockK 0 (seqK (fun s => exec E laws_toWaitS_r0 s (finish [(2, none)])) (finish [(2, none)])))) ([.val x0, .val x4], [.arr 2 c3])
theorem laws_toWaitS_eq (E : Env) (a0 : U) : run E laws_toWaitS_ac [(2, none)] [a0] =
 (U.lenOf false a0).bind fun n1 => if 0 ≤ (n1 : Int) ∧ (n1 : Int) ≤ (n1 : Int) ∧ (n1 : Int) * 16 ≤ 140737488355328 ∧ ((.agg [(.int .i64 0), (.int .i64 0)]) : U).size = 2 then laws_toWaitS_l0 E a0 (.int .i64 0) (List.replicate ((n1 : Int) : Int).toNat (.agg [(.int .i64 0), (.int .i64 0)])) else none := by kernel_rfl
theorem laws_toWaitS_l0_eq (E : Env) (x0 : U) (x4 : U) (c3 : List U) : laws_toWaitS_l0 E x0 x4 c3 =
 (U.lenOf false x0).bind fun n2 => (U.bin .lss x4 (.int .i64 (n2 : Int))).bind fun t3 => U.asBool t3
 (U.asInt x4 fun n4 => U.elemAt 2 x0 n4 fun e5 => U.asVar true 2 e5 fun e6 => (E 147 [e6]).bind fun t7 => U.asInt x4 fun n8 => if 2 = 2 ∧ 2 = 2 ∧ 0 ≤ n8 ∧ n8 < ((c3).length : Int) then if storable (.val t7) = true ∧ t7.size = 2 then if 2 = 2 then (c3[(n8 : Int).toNat]?).bind fun e9 => if e9.size = 2 then (U.bin .add x4 (.int .i64 1)).bind fun t10 => laws_toWaitS_l0 E x0 t10 (c3.set (n8 : Int).toNat t7) else none else none else none else none)
 (some (.sl 2 c3)) :=
 (loop_eq E _ _ _ _).trans (by kernel_rfl)

/-- In the environment E: this function and those that it calls. -/
structure G_laws_toWaitS (E : Env) : Prop where
  is : Is E 142 1 laws_toWaitS_ac [(2, none)]
  c_laws_toWait : G_laws_toWait E
theorem laws_toWaitS_E {E : Env} (h : G_laws_toWaitS E) (a0 : U) : E 142 [a0] =
 (U.lenOf false a0).bind fun n1 => if 0 ≤ (n1 : Int) ∧ (n1 : Int) ≤ (n1 : Int) ∧ (n1 : Int) * 16 ≤ 140737488355328 ∧ ((.agg [(.int .i64 0), (.int .i64 0)]) : U).size = 2 then laws_toWaitS_l0 E a0 (.int .i64 0) (List.replicate ((n1 : Int) : Int).toNat (.agg [(.int .i64 0), (.int .i64 0)])) else none := (h.is _ rfl).trans (laws_toWaitS_eq E a0)

end Go.Proofs.Ytfdcdbkblkehcaa.Am
namespace Go.Proofs.Ytfdcdbkblkehcaa.Am
open Go
set_option linter.unusedVariables false
set_option maxRecDepth 100000

/- loop.example/g01924/laws.toEngine -/
def laws_toEngine_ac : AC :=
 (.seq (.region 0 [⟨some 1, .box false (.t 0), none⟩,
  ⟨some 2, .alloc (.agg [(.bool false), (.agg [(.nsl 1)]), (.nsl 9), (.nsl 2), (.nsl 2), (.int .i64 0)]), none⟩])
 (.seq (.region 0 [⟨some 3, .alloc (.agg [(.bool false), (.agg [(.nsl 1)]), (.nsl 9), (.nsl 2), (.nsl 2), (.int .i64 0)]), none⟩])
 (.seq (.region 0 [⟨some 4, .faddr 0 0 (.t 1), none⟩,
  ⟨some 5, .load false 1 (.t 4), none⟩,
  ⟨some 6, .faddr 0 0 (.t 3), none⟩,
  ⟨none, .store 1 (.t 6) (.t 5), none⟩])
 (.seq (.region 0 [⟨some 7, .faddr 1 1 (.t 1), none⟩,
  ⟨some 8, .load true 1 (.t 7), none⟩,
  ⟨some 9, .call false 93 [(.t 8)], none⟩,
  ⟨some 10, .faddr 1 1 (.t 3), none⟩,
  ⟨none, .store 1 (.t 10) (.t 9), none⟩])
 (.seq (.region 0 [⟨some 11, .faddr 2 2 (.t 1), none⟩,
  ⟨some 12, .load false 1 (.t 11), none⟩,
  ⟨some 13, .call false 144 [(.t 12)], none⟩,
  ⟨some 14, .faddr 2 2 (.t 3), none⟩,
  ⟨none, .store 1 (.t 14) (.t 13), none⟩])
 (.seq (.region 0 [⟨some 15, .faddr 3 3 (.t 1), none⟩,
  ⟨some 16, .load false 1 (.t 15), none⟩,
  ⟨some 17, .call false 143 [(.t 16)], none⟩,
  ⟨some 18, .faddr 3 3 (.t 3), none⟩,
  ⟨none, .store 1 (.t 18) (.t 17), none⟩])
 (.seq (.region 0 [⟨some 19, .faddr 4 4 (.t 1), none⟩,
  ⟨some 20, .load false 1 (.t 19), none⟩,
  ⟨some 21, .call false 142 [(.t 20)], none⟩,
  ⟨some 22, .faddr 4 4 (.t 3), none⟩,
  ⟨none, .store 1 (.t 22) (.t 21), none⟩])
 (.seq (.region 0 [⟨some 23, .faddr 5 5 (.t 1), none⟩,
  ⟨some 24, .load false 1 (.t 23), none⟩,
  ⟨some 25, .faddr 5 5 (.t 3), none⟩,
  ⟨none, .store 1 (.t 25) (.t 24), none⟩])
 (.seq (.region 0 [⟨some 26, .load true 6 (.t 3), none⟩,
  ⟨none, .store 6 (.t 2) (.t 26), none⟩])
 .ret)))))))))

theorem laws_toEngine_eq (E : Env) (a0 : U) : run E laws_toEngine_ac [(2, some (true, 6))] [a0] =
 U.noTup a0 fun x1 => U.asAgg x1 fun us2 => if 0 = sizes (us2.take 0) then (us2[0]?).bind fun e3 => U.asVar false 1 e3 fun e4 => if storable (.val e4) = true ∧ e4.size = 1 then U.asAgg x1 fun us5 => if 1 = sizes (us5.take 1) then (us5[1]?).bind fun e6 => U.asVar true 1 e6 fun e7 => (E 93 [e7]).bind fun t8 => if storable (.val t8) = true ∧ t8.size = 1 then if 1 = sizes [e4] then U.asAgg x1 fun us9 => if 2 = sizes (us9.take 2) then (us9[2]?).bind fun e10 => U.asVar false 1 e10 fun e11 => (E 144 [e11]).bind fun t12 => if storable (.val t12) = true ∧ t12.size = 1 then if 2 = sizes [e4, t8] then U.asAgg x1 fun us13 => if 3 = sizes (us13.take 3) then (us13[3]?).bind fun e14 => U.asVar false 1 e14 fun e15 => (E 143 [e15]).bind fun t16 => if storable (.val t16) = true ∧ t16.size = 1 then if 3 = sizes [e4, t8, t12] then U.asAgg x1 fun us17 => if 4 = sizes (us17.take 4) then (us17[4]?).bind fun e18 => U.asVar false 1 e18 fun e19 => (E 142 [e19]).bind fun t20 => if storable (.val t20) = true ∧ t20.size = 1 then if 4 = sizes [e4, t8, t12, t16] then U.asAgg x1 fun us21 => if 5 = sizes (us21.take 5) then (us21[5]?).bind fun e22 => U.asVar false 1 e22 fun e23 => if storable (.val e23) = true ∧ e23.size = 1 then if 5 = sizes [e4, t8, t12, t16, t20] then U.asVar true 6 (.agg [e4, t8, t12, t16, t20, e23]) fun e24 => if storable (.val e24) = true ∧ e24.size = 6 then U.asVar true 6 e24 fun e25 => some e25 else none else none else none else none else none else none else none else none else none else none else none else none else none else none else none else none else none else none := by kernel_rfl

/-- In the environment E: this function and those that it calls. -/
structure G_laws_toEngine (E : Env) : Prop where
  is : Is E 124 1 laws_toEngine_ac [(2, some (true, 6))]
  c_laws_toStore : G_laws_toStore E
  c_laws_toTransactionS : G_laws_toTransactionS E
  c_laws_toLockS : G_laws_toLockS E
  c_laws_toWaitS : G_laws_toWaitS E
theorem laws_toEngine_E {E : Env} (h : G_laws_toEngine E) (a0 : U) : E 124 [a0] =
 U.noTup a0 fun x1 => U.asAgg x1 fun us2 => if 0 = sizes (us2.take 0) then (us2[0]?).bind fun e3 => U.asVar false 1 e3 fun e4 => if storable (.val e4) = true ∧ e4.size = 1 then U.asAgg x1 fun us5 => if 1 = sizes (us5.take 1) then (us5[1]?).bind fun e6 => U.asVar true 1 e6 fun e7 => (E 93 [e7]).bind fun t8 => if storable (.val t8) = true ∧ t8.size = 1 then if 1 = sizes [e4] then U.asAgg x1 fun us9 => if 2 = sizes (us9.take 2) then (us9[2]?).bind fun e10 => U.asVar false 1 e10 fun e11 => (E 144 [e11]).bind fun t12 => if storable (.val t12) = true ∧ t12.size = 1 then if 2 = sizes [e4, t8] then U.asAgg x1 fun us13 => if 3 = sizes (us13.take 3) then (us13[3]?).bind fun e14 => U.asVar false 1 e14 fun e15 => (E 143 [e15]).bind fun t16 => if storable (.val t16) = true ∧ t16.size = 1 then if 3 = sizes [e4, t8, t12] then U.asAgg x1 fun us17 => if 4 = sizes (us17.take 4) then (us17[4]?).bind fun e18 => U.asVar false 1 e18 fun e19 => (E 142 [e19]).bind fun t20 => if storable (.val t20) = true ∧ t20.size = 1 then if 4 = sizes [e4, t8, t12, t16] then U.asAgg x1 fun us21 => if 5 = sizes (us21.take 5) then (us21[5]?).bind fun e22 => U.asVar false 1 e22 fun e23 => if storable (.val e23) = true ∧ e23.size = 1 then if 5 = sizes [e4, t8, t12, t16, t20] then U.asVar true 6 (.agg [e4, t8, t12, t16, t20, e23]) fun e24 => if storable (.val e24) = true ∧ e24.size = 6 then U.asVar true 6 e24 fun e25 => some e25 else none else none else none else none else none else none else none else none else none else none else none else none else none else none else none else none else none else none := (h.is _ rfl).trans (laws_toEngine_eq E a0)

end Go.Proofs.Ytfdcdbkblkehcaa.Am
namespace Go.Proofs.Ytfdcdbkblkehcaa.Am
open Go
set_option linter.unusedVariables false
set_option maxRecDepth 100000

/- loop.example/g01924/laws.toNode -/
def laws_toNode_ac : AC :=
 (.seq (.region 0 [⟨some 1, .box false (.t 0), none⟩,
  ⟨some 2, .alloc (.agg [(.agg [(.bool false), (.agg [(.nsl 1)]), (.nsl 9), (.nsl 2), (.nsl 2), (.int .i64 0)]), (.str ⟨#[]⟩)]), none⟩])
 (.seq (.region 0 [⟨some 3, .alloc (.agg [(.agg [(.bool false), (.agg [(.nsl 1)]), (.nsl 9), (.nsl 2), (.nsl 2), (.int .i64 0)]), (.str ⟨#[]⟩)]), none⟩])
 (.seq (.region 0 [⟨some 4, .faddr 0 0 (.t 1), none⟩,
  ⟨some 5, .load true 6 (.t 4), none⟩,
  ⟨some 6, .call false 124 [(.t 5)], none⟩,
  ⟨some 7, .faddr 0 0 (.t 3), none⟩,
  ⟨none, .store 6 (.t 7) (.t 6), none⟩])
 (.seq (.region 0 [⟨some 8, .faddr 1 6 (.t 1), none⟩,
  ⟨some 9, .load false 1 (.t 8), none⟩,
  ⟨some 10, .faddr 1 6 (.t 3), none⟩,
  ⟨none, .store 1 (.t 10) (.t 9), none⟩])
 (.seq (.region 0 [⟨some 11, .load true 7 (.t 3), none⟩,
  ⟨none, .store 7 (.t 2) (.t 11), none⟩])
 .ret)))))

theorem laws_toNode_eq (E : Env) (a0 : U) : run E laws_toNode_ac [(2, some (true, 7))] [a0] =
 U.noTup a0 fun x1 => U.asAgg x1 fun us2 => if 0 = sizes (us2.take 0) then (us2[0]?).bind fun e3 => U.asVar true 6 e3 fun e4 => (E 124 [e4]).bind fun t5 => if storable (.val t5) = true ∧ t5.size = 6 then U.asAgg x1 fun us6 => if 6 = sizes (us6.take 1) then (us6[1]?).bind fun e7 => U.asVar false 1 e7 fun e8 => if storable (.val e8) = true ∧ e8.size = 1 then if 6 = sizes [t5] then U.asVar true 7 (.agg [t5, e8]) fun e9 => if storable (.val e9) = true ∧ e9.size = 7 then U.asVar true 7 e9 fun e10 => some e10 else none else none else none else none else none else none := by kernel_rfl

/-- In the environment E: this function and those that it calls. -/
structure G_laws_toNode (E : Env) : Prop where
  is : Is E 259 1 laws_toNode_ac [(2, some (true, 7))]
  c_laws_toEngine : G_laws_toEngine E
theorem laws_toNode_E {E : Env} (h : G_laws_toNode E) (a0 : U) : E 259 [a0] =
 U.noTup a0 fun x1 => U.asAgg x1 fun us2 => if 0 = sizes (us2.take 0) then (us2[0]?).bind fun e3 => U.asVar true 6 e3 fun e4 => (E 124 [e4]).bind fun t5 => if storable (.val t5) = true ∧ t5.size = 6 then U.asAgg x1 fun us6 => if 6 = sizes (us6.take 1) then (us6[1]?).bind fun e7 => U.asVar false 1 e7 fun e8 => if storable (.val e8) = true ∧ e8.size = 1 then if 6 = sizes [t5] then U.asVar true 7 (.agg [t5, e8]) fun e9 => if storable (.val e9) = true ∧ e9.size = 7 then U.asVar true 7 e9 fun e10 => some e10 else none else none else none else none else none else none := (h.is _ rfl).trans (laws_toNode_eq E a0)

end Go.Proofs.Ytfdcdbkblkehcaa.Am
