import Derived.KernelRfl
import Derived.Test.YtmebdbagcbgddaaAmW
namespace Go.Proofs.Ytmebdbagcbgddaa.Am
open Go
set_option linter.unusedVariables false
set_option maxRecDepth 100000

/- loop.example/g01924/laws.szVersionS -/
def laws_szVersionS_ac : AC :=
 (.seq (.region 0 [⟨some 4, .mv (.c (.int .i64 0)), none⟩])
 (.seq (.region 0 [⟨some 5, .mv (.t 1), none⟩,
  ⟨some 6, .mv (.t 0), none⟩,
  ⟨some 7, .len false (.t 6), none⟩,
  ⟨some 8, .bin .sub (.t 5) (.t 7), none⟩,
  ⟨some 1, .mv (.t 8), none⟩])
 (.seq (.seq (.region 0 [⟨some 9, .mv (.t 1), none⟩,
  ⟨some 10, .bin .lss (.t 9) (.c (.int .i64 0)), none⟩])
 (.cond (.t 10) (.seq (.region 0 [⟨some 4, .mv (.c (.int .i64 (-1))), none⟩])
 .ret) .skip))
 (.seq (.region 0 [⟨some 11, .mv (.t 1), none⟩,
  ⟨some 4, .mv (.t 11), none⟩])
 .ret))))

theorem laws_szVersionS_eq (E : Env) (a0 : U) (a1 : U) : run E laws_szVersionS_ac [(4, none)] [a0, a1] =
 (U.lenOf false a0).bind fun n1 => (U.bin .sub a1 (.int .i64 (n1 : Int))).bind fun t2 => (U.bin .lss t2 (.int .i64 0)).bind fun t3 => U.asBool t3
 (some (.int .i64 (-1)))
 (some t2) := by kernel_rfl

/-- In the environment E: this function and those that it calls. -/
structure G_laws_szVersionS (E : Env) : Prop where
  is : Is E 101 2 laws_szVersionS_ac [(4, none)]
theorem laws_szVersionS_E {E : Env} (h : G_laws_szVersionS E) (a0 a1 : U) : E 101 [a0, a1] =
 (U.lenOf false a0).bind fun n1 => (U.bin .sub a1 (.int .i64 (n1 : Int))).bind fun t2 => (U.bin .lss t2 (.int .i64 0)).bind fun t3 => U.asBool t3
 (some (.int .i64 (-1)))
 (some t2) := (h.is _ rfl).trans ((runQ_V rfl).trans (laws_szVersionS_eq E a0 a1))

end Go.Proofs.Ytmebdbagcbgddaa.Am
namespace Go.Proofs.Ytmebdbagcbgddaa.Am
open Go
set_option linter.unusedVariables false
set_option maxRecDepth 100000

/- loop.example/g01924/laws.szVersionSS -/
def laws_szVersionSS_b0 : AC :=
 (.seq (.seq (.region 0 [⟨some 12, .mv (.t 5), none⟩,
  ⟨some 13, .mv (.t 0), none⟩,
  ⟨some 14, .len false (.t 13), none⟩,
  ⟨some 15, .bin .lss (.t 12) (.t 14), none⟩])
 (.cond (.t 15) .skip (.exit 0)))
 (.seq (.block 1 (.seq (.region 0 [⟨some 18, .mv (.t 0), none⟩,
  ⟨some 19, .mv (.t 5), none⟩,
  ⟨some 20, .iaddr 1 (.t 18) (.t 19), none⟩,
  ⟨some 21, .load false 1 (.t 20), none⟩,
  ⟨some 22, .mv (.t 1), none⟩,
  ⟨some 23, .call false 101 [(.t 21), (.t 22)], none⟩,
  ⟨some 1, .mv (.t 23), none⟩])
 (.seq (.region 0 [⟨some 24, .mv (.t 1), none⟩,
  ⟨some 25, .bin .lss (.t 24) (.c (.int .i64 0)), none⟩])
 (.cond (.t 25) (.seq (.region 0 [⟨some 4, .mv (.c (.int .i64 (-1))), none⟩])
 .ret) .skip))))
 (.region 0 [⟨some 16, .mv (.t 5), none⟩,
  ⟨some 17, .bin .add (.t 16) (.c (.int .i64 1)), none⟩,
  ⟨some 5, .mv (.t 17), none⟩])))
def laws_szVersionSS_r0 : AC :=
 (.seq (.region 0 [⟨some 26, .mv (.t 1), none⟩,
  ⟨some 4, .mv (.t 26), none⟩])
 .ret)
def laws_szVersionSS_ac : AC :=
 (.seq (.region 0 [⟨some 4, .mv (.c (.int .i64 0)), none⟩])
 (.seq (.region 0 [⟨some 6, .mv (.t 1), none⟩,
  ⟨some 7, .mv (.t 0), none⟩,
  ⟨some 8, .len false (.t 7), none⟩,
  ⟨some 9, .bin .sub (.t 6) (.t 8), none⟩,
  ⟨some 1, .mv (.t 9), none⟩])
 (.seq (.seq (.region 0 [⟨some 10, .mv (.t 1), none⟩,
  ⟨some 11, .bin .lss (.t 10) (.c (.int .i64 0)), none⟩])
 (.cond (.t 11) (.seq (.region 0 [⟨some 4, .mv (.c (.int .i64 (-1))), none⟩])
 .ret) .skip))
 (.seq (.seq (.region 0 [⟨some 5, .mv (.c (.int .i64 0)), none⟩])
 (.block 0 (.loop ⟨[0, 1, 5], [], []⟩ laws_szVersionSS_b0)))
 laws_szVersionSS_r0))))
noncomputable def laws_szVersionSS_l0 (E : Env) (x0 : U) (x1 : U) (x5 : U) : Option U := loopK (roundOf E ⟨[0, 1, 5], [], []⟩ laws_szVersionSS_b0 (blockK 0 (seqK (fun s => exec E laws_szVersionSS_r0 s (finish [(4, none)])) (finish [(4, none)])))) ([.val x0, .val x1, .val x5], [])
theorem laws_szVersionSS_eq (E : Env) (a0 : U) (a1 : U) : run E laws_szVersionSS_ac [(4, none)] [a0, a1] =
 (U.lenOf false a0).bind fun n1 => (U.bin .sub a1 (.int .i64 (n1 : Int))).bind fun t2 => (U.bin .lss t2 (.int .i64 0)).bind fun t3 => U.asBool t3
 (some (.int .i64 (-1)))
 (laws_szVersionSS_l0 E a0 t2 (.int .i64 0)) := by kernel_rfl
theorem laws_szVersionSS_l0_eq (E : Env) (x0 : U) (x1 : U) (x5 : U) : laws_szVersionSS_l0 E x0 x1 x5 =
 (U.lenOf false x0).bind fun n4 => (U.bin .lss x5 (.int .i64 (n4 : Int))).bind fun t5 => U.asBool t5
 (U.asInt x5 fun n6 => U.elemAt 1 x0 n6 fun e7 => U.asVar false 1 e7 fun e8 => (E 101 [e8, x1]).bind fun t9 => (U.bin .lss t9 (.int .i64 0)).bind fun t10 => U.asBool t10
 (some (.int .i64 (-1)))
 ((U.bin .add x5 (.int .i64 1)).bind fun t11 => laws_szVersionSS_l0 E x0 t9 t11))
 (some x1) :=
 (loop_eq E _ _ _ _).trans (by kernel_rfl)

/-- In the environment E: this function and those that it calls. -/
structure G_laws_szVersionSS (E : Env) : Prop where
  is : Is E 100 2 laws_szVersionSS_ac [(4, none)]
  c_laws_szVersionS : G_laws_szVersionS E
theorem laws_szVersionSS_E {E : Env} (h : G_laws_szVersionSS E) (a0 a1 : U) : E 100 [a0, a1] =
 (U.lenOf false a0).bind fun n1 => (U.bin .sub a1 (.int .i64 (n1 : Int))).bind fun t2 => (U.bin .lss t2 (.int .i64 0)).bind fun t3 => U.asBool t3
 (some (.int .i64 (-1)))
 (laws_szVersionSS_l0 E a0 t2 (.int .i64 0)) := (h.is _ rfl).trans ((runQ_V rfl).trans (laws_szVersionSS_eq E a0 a1))

end Go.Proofs.Ytmebdbagcbgddaa.Am
namespace Go.Proofs.Ytmebdbagcbgddaa.Am
open Go
set_option linter.unusedVariables false
set_option maxRecDepth 100000

/- loop.example/g01924/laws.szStore -/
def laws_szStore_ac : AC :=
 (.seq (.region 0 [⟨some 2, .box false 2 (.t 0), none⟩,
  ⟨some 4, .mv (.c (.int .i64 0)), none⟩])
 (.seq (.region 0 [⟨some 5, .faddr 0 0 (.t 2), none⟩,
  ⟨some 6, .load false 1 (.t 5), none⟩,
  ⟨some 7, .mv (.t 1), none⟩,
  ⟨some 8, .call false 100 [(.t 6), (.t 7)], none⟩,
  ⟨some 1, .mv (.t 8), none⟩])
 (.seq (.seq (.region 0 [⟨some 9, .mv (.t 1), none⟩,
  ⟨some 10, .bin .lss (.t 9) (.c (.int .i64 0)), none⟩])
 (.cond (.t 10) (.seq (.region 0 [⟨some 4, .mv (.c (.int .i64 (-1))), none⟩])
 .ret) .skip))
 (.seq (.region 0 [⟨some 11, .mv (.t 1), none⟩,
  ⟨some 4, .mv (.t 11), none⟩])
 .ret))))

theorem laws_szStore_eq (E : Env) (a0 : U) (a1 : U) : run E laws_szStore_ac [(4, none)] [a0, a1] =
 U.noTup a0 fun x1 => U.asAgg x1 fun us2 => if 0 = sizes (us2.take 0) then (us2[0]?).bind fun e3 => U.asVar false 1 e3 fun e4 => (E 100 [e4, a1]).bind fun t5 => (U.bin .lss t5 (.int .i64 0)).bind fun t6 => U.asBool t6
 (some (.int .i64 (-1)))
 (some t5) else none := by kernel_rfl

/-- In the environment E: this function and those that it calls. -/
structure G_laws_szStore (E : Env) : Prop where
  is : Is E 99 2 laws_szStore_ac [(4, none)]
  c_laws_szVersionSS : G_laws_szVersionSS E
theorem laws_szStore_E {E : Env} (h : G_laws_szStore E) (a0 a1 : U) : E 99 [a0, a1] =
 U.noTup a0 fun x1 => U.asAgg x1 fun us2 => if 0 = sizes (us2.take 0) then (us2[0]?).bind fun e3 => U.asVar false 1 e3 fun e4 => (E 100 [e4, a1]).bind fun t5 => (U.bin .lss t5 (.int .i64 0)).bind fun t6 => U.asBool t6
 (some (.int .i64 (-1)))
 (some t5) else none := (h.is _ rfl).trans ((runQ_V rfl).trans (laws_szStore_eq E a0 a1))

end Go.Proofs.Ytmebdbagcbgddaa.Am
namespace Go.Proofs.Ytmebdbagcbgddaa.Am
open Go
set_option linter.unusedVariables false
set_option maxRecDepth 100000

/- loop.example/g01924/spec.l1In -/
def spec_l1In_ac : AC :=
 (.seq (.region 0 [⟨some 6, .mv (.c (.bool false)), none⟩])
 (.seq (.region 0 [⟨some 7, .mv (.t 0), none⟩,
  ⟨some 8, .mv (.t 1), none⟩,
  ⟨some 9, .bin .geq (.t 7) (.t 8), none⟩,
  ⟨some 10, .mv (.t 9), none⟩,
  ⟨some 11, .mv (.t 0), some (10, true)⟩,
  ⟨some 12, .mv (.t 2), some (10, true)⟩,
  ⟨some 13, .bin .leq (.t 11) (.t 12), some (10, true)⟩,
  ⟨some 14, .pick (.t 10) (.t 13) (.c (.bool false)), none⟩,
  ⟨some 6, .mv (.t 14), none⟩])
 .ret))

theorem spec_l1In_eq (E : Env) (a0 : U) (a1 : U) (a2 : U) : run E spec_l1In_ac [(6, none)] [a0, a1, a2] =
 (U.bin .geq a0 a1).bind fun t1 => U.asBool t1
 ((U.bin .leq a0 a2).bind fun t2 => some t2)
 (some (.bool false)) := by kernel_rfl

/-- In the environment E: this function and those that it calls. -/
structure G_spec_l1In (E : Env) : Prop where
  is : Is E 6 3 spec_l1In_ac [(6, none)]
theorem spec_l1In_E {E : Env} (h : G_spec_l1In E) (a0 a1 a2 : U) : E 6 [a0, a1, a2] =
 (U.bin .geq a0 a1).bind fun t1 => U.asBool t1
 ((U.bin .leq a0 a2).bind fun t2 => some t2)
 (some (.bool false)) := (h.is _ rfl).trans ((runQ_V rfl).trans (spec_l1In_eq E a0 a1 a2))

end Go.Proofs.Ytmebdbagcbgddaa.Am
namespace Go.Proofs.Ytmebdbagcbgddaa.Am
open Go
set_option linter.unusedVariables false
set_option maxRecDepth 100000

/- loop.example/g01924/spec.IsValidVersion -/
def spec_IsValidVersion_ac : AC :=
 (.seq (.region 0 [⟨some 1, .box false 1 (.t 0), none⟩,
  ⟨some 2, .mv (.c (.bool false)), none⟩])
 (.seq (.seq (.region 0 [⟨some 3, .faddr 1 1 (.t 1), none⟩,
  ⟨some 4, .load false 1 (.t 3), none⟩,
  ⟨some 5, .call false 6 [(.t 4), (.c (.int .i64 (-1))), (.c (.int .i64 99))], none⟩,
  ⟨some 6, .un .not (.t 5), none⟩,
  ⟨some 7, .mv (.t 6), none⟩,
  ⟨some 8, .faddr 2 2 (.t 1), some (7, false)⟩,
  ⟨some 9, .load false 1 (.t 8), some (7, false)⟩,
  ⟨some 10, .call false 6 [(.t 9), (.c (.int .i64 0)), (.c (.int .i64 999))], some (7, false)⟩,
  ⟨some 11, .un .not (.t 10), some (7, false)⟩,
  ⟨some 12, .pick (.t 7) (.c (.bool true)) (.t 11), none⟩,
  ⟨some 13, .mv (.t 12), none⟩,
  ⟨some 14, .faddr 3 3 (.t 1), some (13, false)⟩,
  ⟨some 15, .load false 1 (.t 14), some (13, false)⟩,
  ⟨some 16, .faddr 2 2 (.t 1), some (13, false)⟩,
  ⟨some 17, .load false 1 (.t 16), some (13, false)⟩,
  ⟨some 18, .call false 6 [(.t 15), (.t 17), (.c (.int .i64 999))], some (13, false)⟩,
  ⟨some 19, .un .not (.t 18), some (13, false)⟩,
  ⟨some 20, .pick (.t 13) (.c (.bool true)) (.t 19), none⟩,
  ⟨some 21, .mv (.t 20), none⟩,
  ⟨some 22, .faddr 4 4 (.t 1), some (21, false)⟩,
  ⟨some 23, .load false 1 (.t 22), some (21, false)⟩,
  ⟨some 24, .call false 6 [(.t 23), (.c (.int .i64 1)), (.c (.int .i64 1000))], some (21, false)⟩,
  ⟨some 25, .un .not (.t 24), some (21, false)⟩,
  ⟨some 26, .pick (.t 21) (.c (.bool true)) (.t 25), none⟩])
 (.cond (.t 26) (.seq (.region 0 [⟨some 2, .mv (.c (.bool false)), none⟩])
 .ret) .skip))
 (.seq (.seq (.region 0 [⟨some 27, .faddr 2 2 (.t 1), none⟩,
  ⟨some 28, .load false 1 (.t 27), none⟩,
  ⟨some 29, .bin .eql (.t 28) (.c (.int .i64 0)), none⟩])
 (.cond (.t 29) (.seq (.region 0 [⟨some 30, .faddr 0 0 (.t 1), none⟩,
  ⟨some 31, .load false 1 (.t 30), none⟩,
  ⟨some 32, .bin .eql (.t 31) (.c (.int .i64 0)), none⟩,
  ⟨some 33, .mv (.t 32), none⟩,
  ⟨some 34, .faddr 1 1 (.t 1), some (33, true)⟩,
  ⟨some 35, .load false 1 (.t 34), some (33, true)⟩,
  ⟨some 36, .bin .eql (.t 35) (.c (.int .i64 (-1))), some (33, true)⟩,
  ⟨some 37, .pick (.t 33) (.t 36) (.c (.bool false)), none⟩,
  ⟨some 2, .mv (.t 37), none⟩])
 .ret) .skip))
 (.seq (.region 0 [⟨some 38, .faddr 0 0 (.t 1), none⟩,
  ⟨some 39, .load false 1 (.t 38), none⟩,
  ⟨some 40, .call false 6 [(.t 39), (.c (.int .i64 1)), (.c (.int .i64 9))], none⟩,
  ⟨some 2, .mv (.t 40), none⟩])
 .ret))))

theorem spec_IsValidVersion_eq (E : Env) (a0 : U) : run E spec_IsValidVersion_ac [(2, none)] [a0] =
 U.noTup a0 fun x1 => U.asAgg x1 fun us2 => if 1 = sizes (us2.take 1) then (us2[1]?).bind fun e3 => U.asVar false 1 e3 fun e4 => (E 6 [e4, (.int .i64 (-1)), (.int .i64 99)]).bind fun t5 => (U.un .not t5).bind fun t6 => U.asBool t6
 (some (.bool false))
 (U.asAgg x1 fun us7 => if 2 = sizes (us7.take 2) then (us7[2]?).bind fun e8 => U.asVar false 1 e8 fun e9 => (E 6 [e9, (.int .i64 0), (.int .i64 999)]).bind fun t10 => (U.un .not t10).bind fun t11 => U.asBool t11
 (some (.bool false))
 (U.asAgg x1 fun us12 => if 3 = sizes (us12.take 3) then (us12[3]?).bind fun e13 => U.asVar false 1 e13 fun e14 => U.asAgg x1 fun us15 => if 2 = sizes (us15.take 2) then (us15[2]?).bind fun e16 => U.asVar false 1 e16 fun e17 => (E 6 [e14, e17, (.int .i64 999)]).bind fun t18 => (U.un .not t18).bind fun t19 => U.asBool t19
 (some (.bool false))
 (U.asAgg x1 fun us20 => if 4 = sizes (us20.take 4) then (us20[4]?).bind fun e21 => U.asVar false 1 e21 fun e22 => (E 6 [e22, (.int .i64 1), (.int .i64 1000)]).bind fun t23 => (U.un .not t23).bind fun t24 => U.asBool t24
 (some (.bool false))
 (U.asAgg x1 fun us25 => if 2 = sizes (us25.take 2) then (us25[2]?).bind fun e26 => U.asVar false 1 e26 fun e27 => (U.bin .eql e27 (.int .i64 0)).bind fun t28 => U.asBool t28
 (U.asAgg x1 fun us29 => if 0 = sizes (us29.take 0) then (us29[0]?).bind fun e30 => U.asVar false 1 e30 fun e31 => (U.bin .eql e31 (.int .i64 0)).bind fun t32 => U.asBool t32
 (U.asAgg x1 fun us33 => if 1 = sizes (us33.take 1) then (us33[1]?).bind fun e34 => U.asVar false 1 e34 fun e35 => (U.bin .eql e35 (.int .i64 (-1))).bind fun t36 => some t36 else none)
 (some (.bool false)) else none)
 (U.asAgg x1 fun us37 => if 0 = sizes (us37.take 0) then (us37[0]?).bind fun e38 => U.asVar false 1 e38 fun e39 => (E 6 [e39, (.int .i64 1), (.int .i64 9)]).bind fun t40 => some t40 else none) else none) else none) else none else none) else none) else none := by kernel_rfl

/-- In the environment E: this function and those that it calls. -/
structure G_spec_IsValidVersion (E : Env) : Prop where
  is : Is E 105 1 spec_IsValidVersion_ac [(2, none)]
  c_spec_l1In : G_spec_l1In E
theorem spec_IsValidVersion_E {E : Env} (h : G_spec_IsValidVersion E) (a0 : U) : E 105 [a0] =
 U.noTup a0 fun x1 => U.asAgg x1 fun us2 => if 1 = sizes (us2.take 1) then (us2[1]?).bind fun e3 => U.asVar false 1 e3 fun e4 => (E 6 [e4, (.int .i64 (-1)), (.int .i64 99)]).bind fun t5 => (U.un .not t5).bind fun t6 => U.asBool t6
 (some (.bool false))
 (U.asAgg x1 fun us7 => if 2 = sizes (us7.take 2) then (us7[2]?).bind fun e8 => U.asVar false 1 e8 fun e9 => (E 6 [e9, (.int .i64 0), (.int .i64 999)]).bind fun t10 => (U.un .not t10).bind fun t11 => U.asBool t11
 (some (.bool false))
 (U.asAgg x1 fun us12 => if 3 = sizes (us12.take 3) then (us12[3]?).bind fun e13 => U.asVar false 1 e13 fun e14 => U.asAgg x1 fun us15 => if 2 = sizes (us15.take 2) then (us15[2]?).bind fun e16 => U.asVar false 1 e16 fun e17 => (E 6 [e14, e17, (.int .i64 999)]).bind fun t18 => (U.un .not t18).bind fun t19 => U.asBool t19
 (some (.bool false))
 (U.asAgg x1 fun us20 => if 4 = sizes (us20.take 4) then (us20[4]?).bind fun e21 => U.asVar false 1 e21 fun e22 => (E 6 [e22, (.int .i64 1), (.int .i64 1000)]).bind fun t23 => (U.un .not t23).bind fun t24 => U.asBool t24
 (some (.bool false))
 (U.asAgg x1 fun us25 => if 2 = sizes (us25.take 2) then (us25[2]?).bind fun e26 => U.asVar false 1 e26 fun e27 => (U.bin .eql e27 (.int .i64 0)).bind fun t28 => U.asBool t28
 (U.asAgg x1 fun us29 => if 0 = sizes (us29.take 0) then (us29[0]?).bind fun e30 => U.asVar false 1 e30 fun e31 => (U.bin .eql e31 (.int .i64 0)).bind fun t32 => U.asBool t32
 (U.asAgg x1 fun us33 => if 1 = sizes (us33.take 1) then (us33[1]?).bind fun e34 => U.asVar false 1 e34 fun e35 => (U.bin .eql e35 (.int .i64 (-1))).bind fun t36 => some t36 else none)
 (some (.bool false)) else none)
 (U.asAgg x1 fun us37 => if 0 = sizes (us37.take 0) then (us37[0]?).bind fun e38 => U.asVar false 1 e38 fun e39 => (E 6 [e39, (.int .i64 1), (.int .i64 9)]).bind fun t40 => some t40 else none) else none) else none) else none else none) else none) else none := (h.is _ rfl).trans ((runQ_V rfl).trans (spec_IsValidVersion_eq E a0))

end Go.Proofs.Ytmebdbagcbgddaa.Am
namespace Go.Proofs.Ytmebdbagcbgddaa.Am
open Go
set_option linter.unusedVariables false
set_option maxRecDepth 100000

/- loop.example/g01924/spec.IsValidChain -/
def spec_IsValidChain_b0 : AC :=
 (.seq (.seq (.region 0 [⟨some 4, .mv (.t 3), none⟩,
  ⟨some 5, .mv (.t 0), none⟩,
  ⟨some 6, .len false (.t 5), none⟩,
  ⟨some 7, .bin .lss (.t 4) (.t 6), none⟩])
 (.cond (.t 7) .skip (.exit 0)))
 (.seq (.block 1 (.seq (.seq (.region 0 [⟨some 10, .mv (.t 0), none⟩,
  ⟨some 11, .mv (.t 3), none⟩,
  ⟨some 12, .iaddr 5 (.t 10) (.t 11), none⟩,
  ⟨some 13, .load true 5 (.t 12), none⟩,
  ⟨some 14, .call false 105 [(.t 13)], none⟩,
  ⟨some 15, .un .not (.t 14), none⟩])
 (.cond (.t 15) (.seq (.region 0 [⟨some 2, .mv (.c (.bool false)), none⟩])
 .ret) .skip))
 (.seq (.region 33 [⟨some 16, .mv (.t 3), none⟩,
  ⟨some 17, .bin .add (.t 16) (.c (.int .i64 1)), none⟩,
  ⟨some 18, .mv (.t 0), none⟩,
  ⟨some 19, .len false (.t 18), none⟩,
  ⟨some 20, .bin .lss (.t 17) (.t 19), none⟩,
  ⟨some 21, .mv (.t 20), none⟩,
  ⟨some 22, .mv (.t 0), some (21, true)⟩,
  ⟨some 23, .mv (.t 3), some (21, true)⟩,
  ⟨some 24, .iaddr 5 (.t 22) (.t 23), some (21, true)⟩,
  ⟨some 25, .faddr 2 2 (.t 24), some (21, true)⟩,
  ⟨some 26, .load false 1 (.t 25), some (21, true)⟩,
  ⟨some 27, .mv (.t 0), some (21, true)⟩,
  ⟨some 28, .mv (.t 3), some (21, true)⟩,
  ⟨some 29, .bin .add (.t 28) (.c (.int .i64 1)), some (21, true)⟩,
  ⟨some 30, .iaddr 5 (.t 27) (.t 29), some (21, true)⟩,
  ⟨some 31, .faddr 2 2 (.t 30), some (21, true)⟩,
  ⟨some 32, .load false 1 (.t 31), some (21, true)⟩,
  ⟨some 33, .bin .geq (.t 26) (.t 32), some (21, true)⟩,
  ⟨some 34, .mv (.t 33), some (21, true)⟩,
  ⟨some 35, .mv (.t 0), some (34, false)⟩,
  ⟨some 36, .mv (.t 3), some (34, false)⟩,
  ⟨some 37, .iaddr 5 (.t 35) (.t 36), some (34, false)⟩,
  ⟨some 38, .faddr 4 4 (.t 37), some (34, false)⟩,
  ⟨some 39, .load false 1 (.t 38), some (34, false)⟩,
  ⟨some 40, .mv (.t 0), some (34, false)⟩,
  ⟨some 41, .mv (.t 3), some (34, false)⟩,
  ⟨some 42, .bin .add (.t 41) (.c (.int .i64 1)), some (34, false)⟩,
  ⟨some 43, .iaddr 5 (.t 40) (.t 42), some (34, false)⟩,
  ⟨some 44, .faddr 2 2 (.t 43), some (34, false)⟩,
  ⟨some 45, .load false 1 (.t 44), some (34, false)⟩,
  ⟨some 46, .bin .gtr (.t 39) (.t 45), some (34, false)⟩,
  ⟨some 47, .pick (.t 34) (.c (.bool true)) (.t 46), some (21, true)⟩,
  ⟨some 48, .pick (.t 21) (.t 47) (.c (.bool false)), none⟩])
 (.cond (.t 48) (.seq (.region 0 [⟨some 2, .mv (.c (.bool false)), none⟩])
 .ret) .skip))))
 (.region 0 [⟨some 8, .mv (.t 3), none⟩,
  ⟨some 9, .bin .add (.t 8) (.c (.int .i64 1)), none⟩,
  ⟨some 3, .mv (.t 9), none⟩])))
def spec_IsValidChain_r0 : AC :=
 (.seq (.region 0 [⟨some 49, .mv (.t 0), none⟩,
  ⟨some 50, .len false (.t 49), none⟩,
  ⟨some 51, .bin .gtr (.t 50) (.c (.int .i64 0)), none⟩,
  ⟨some 52, .mv (.t 51), none⟩,
  ⟨some 53, .mv (.t 0), some (52, true)⟩,
  ⟨some 54, .mv (.t 0), some (52, true)⟩,
  ⟨some 55, .len false (.t 54), some (52, true)⟩,
  ⟨some 56, .bin .sub (.t 55) (.c (.int .i64 1)), some (52, true)⟩,
  ⟨some 57, .iaddr 5 (.t 53) (.t 56), some (52, true)⟩,
  ⟨some 58, .faddr 4 4 (.t 57), some (52, true)⟩,
  ⟨some 59, .load false 1 (.t 58), some (52, true)⟩,
  ⟨some 60, .bin .eql (.t 59) (.c (.int .i64 1000)), some (52, true)⟩,
  ⟨some 61, .pick (.t 52) (.t 60) (.c (.bool false)), none⟩,
  ⟨some 2, .mv (.t 61), none⟩])
 .ret)
def spec_IsValidChain_ac : AC :=
 (.seq (.region 0 [⟨some 2, .mv (.c (.bool false)), none⟩])
 (.seq (.seq (.region 0 [⟨some 3, .mv (.c (.int .i64 0)), none⟩])
 (.block 0 (.loop ⟨[0, 3], [], []⟩ spec_IsValidChain_b0)))
 spec_IsValidChain_r0))
noncomputable def spec_IsValidChain_l0 (E : Env) (x0 : U) (x3 : U) : Option U := loopK (roundOf E ⟨[0, 3], [], []⟩ spec_IsValidChain_b0 (blockK 0 (seqK (fun s => exec E spec_IsValidChain_r0 s (finish [(2, none)])) (finish [(2, none)])))) ([.val x0, .val x3], [])
theorem spec_IsValidChain_eq (E : Env) (a0 : U) : run E spec_IsValidChain_ac [(2, none)] [a0] =
 spec_IsValidChain_l0 E a0 (.int .i64 0) := by kernel_rfl
theorem spec_IsValidChain_l0_eq (E : Env) (x0 : U) (x3 : U) : spec_IsValidChain_l0 E x0 x3 =
 (U.lenOf false x0).bind fun n1 => (U.bin .lss x3 (.int .i64 (n1 : Int))).bind fun t2 => U.asBool t2
 (U.asInt x3 fun n3 => U.elemAt 5 x0 n3 fun e4 => U.asVar true 5 e4 fun e5 => (E 105 [e5]).bind fun t6 => (U.un .not t6).bind fun t7 => U.asBool t7
 (some (.bool false))
 ((U.bin .add x3 (.int .i64 1)).bind fun t8 => (U.lenOf false x0).bind fun n9 => (U.bin .lss t8 (.int .i64 (n9 : Int))).bind fun t10 => U.asBool t10
 (U.asInt x3 fun n11 => U.elemAt 5 x0 n11 fun e12 => U.fieldAt 2 2 e12 fun f13 => U.asVar false 1 f13 fun e14 => (U.bin .add x3 (.int .i64 1)).bind fun t15 => U.asInt t15 fun n16 => U.elemAt 5 x0 n16 fun e17 => U.fieldAt 2 2 e17 fun f18 => U.asVar false 1 f18 fun e19 => (U.bin .geq e14 e19).bind fun t20 => U.asBool t20
 (some (.bool false))
 (U.asInt x3 fun n21 => U.elemAt 5 x0 n21 fun e22 => U.fieldAt 4 4 e22 fun f23 => U.asVar false 1 f23 fun e24 => (U.bin .add x3 (.int .i64 1)).bind fun t25 => U.asInt t25 fun n26 => U.elemAt 5 x0 n26 fun e27 => U.fieldAt 2 2 e27 fun f28 => U.asVar false 1 f28 fun e29 => (U.bin .gtr e24 e29).bind fun t30 => U.asBool t30
 (some (.bool false))
 ((U.bin .add x3 (.int .i64 1)).bind fun t31 => spec_IsValidChain_l0 E x0 t31)))
 ((U.bin .add x3 (.int .i64 1)).bind fun t32 => spec_IsValidChain_l0 E x0 t32)))
 ((U.lenOf false x0).bind fun n33 => (U.bin .gtr (.int .i64 (n33 : Int)) (.int .i64 0)).bind fun t34 => U.asBool t34
 ((U.lenOf false x0).bind fun n35 => (U.bin .sub (.int .i64 (n35 : Int)) (.int .i64 1)).bind fun t36 => U.asInt t36 fun n37 => U.elemAt 5 x0 n37 fun e38 => U.fieldAt 4 4 e38 fun f39 => U.asVar false 1 f39 fun e40 => (U.bin .eql e40 (.int .i64 1000)).bind fun t41 => some t41)
 (some (.bool false))) :=
 (loop_eq E _ _ _ _).trans (by kernel_rfl)

/-- In the environment E: this function and those that it calls. -/
structure G_spec_IsValidChain (E : Env) : Prop where
  is : Is E 104 1 spec_IsValidChain_ac [(2, none)]
  c_spec_IsValidVersion : G_spec_IsValidVersion E
theorem spec_IsValidChain_E {E : Env} (h : G_spec_IsValidChain E) (a0 : U) : E 104 [a0] =
 spec_IsValidChain_l0 E a0 (.int .i64 0) := (h.is _ rfl).trans ((runQ_V rfl).trans (spec_IsValidChain_eq E a0))

end Go.Proofs.Ytmebdbagcbgddaa.Am
namespace Go.Proofs.Ytmebdbagcbgddaa.Am
open Go
set_option linter.unusedVariables false
set_option maxRecDepth 100000

/- loop.example/g01924/spec.IsValidStore -/
def spec_IsValidStore_b0 : AC :=
 (.seq (.seq (.region 0 [⟨some 4, .mv (.t 3), none⟩,
  ⟨some 5, .faddr 0 0 (.t 1), none⟩,
  ⟨some 6, .load false 1 (.t 5), none⟩,
  ⟨some 7, .len false (.t 6), none⟩,
  ⟨some 8, .bin .lss (.t 4) (.t 7), none⟩])
 (.cond (.t 8) .skip (.exit 0)))
 (.seq (.block 1 (.seq (.region 0 [⟨some 11, .faddr 0 0 (.t 1), none⟩,
  ⟨some 12, .load false 1 (.t 11), none⟩,
  ⟨some 13, .mv (.t 3), none⟩,
  ⟨some 14, .iaddr 1 (.t 12) (.t 13), none⟩,
  ⟨some 15, .load false 1 (.t 14), none⟩,
  ⟨some 16, .call false 104 [(.t 15)], none⟩,
  ⟨some 17, .un .not (.t 16), none⟩,
  ⟨some 18, .mv (.t 17), none⟩,
  ⟨some 19, .faddr 0 0 (.t 1), some (18, false)⟩,
  ⟨some 20, .load false 1 (.t 19), some (18, false)⟩,
  ⟨some 21, .mv (.t 3), some (18, false)⟩,
  ⟨some 22, .iaddr 1 (.t 20) (.t 21), some (18, false)⟩,
  ⟨some 23, .load false 1 (.t 22), some (18, false)⟩,
  ⟨some 24, .iaddr 5 (.t 23) (.c (.int .i64 0)), some (18, false)⟩,
  ⟨some 25, .faddr 2 2 (.t 24), some (18, false)⟩,
  ⟨some 26, .load false 1 (.t 25), some (18, false)⟩,
  ⟨some 27, .bin .gtr (.t 26) (.c (.int .i64 0)), some (18, false)⟩,
  ⟨some 28, .mv (.t 27), some (18, false)⟩,
  ⟨some 29, .faddr 0 0 (.t 1), some (28, true)⟩,
  ⟨some 30, .load false 1 (.t 29), some (28, true)⟩,
  ⟨some 31, .mv (.t 3), some (28, true)⟩,
  ⟨some 32, .iaddr 1 (.t 30) (.t 31), some (28, true)⟩,
  ⟨some 33, .load false 1 (.t 32), some (28, true)⟩,
  ⟨some 34, .len false (.t 33), some (28, true)⟩,
  ⟨some 35, .bin .gtr (.t 34) (.c (.int .i64 50)), some (28, true)⟩,
  ⟨some 36, .pick (.t 28) (.t 35) (.c (.bool false)), some (18, false)⟩,
  ⟨some 37, .pick (.t 18) (.c (.bool true)) (.t 36), none⟩,
  ⟨some 38, .mv (.t 37), none⟩,
  ⟨some 39, .faddr 0 0 (.t 1), some (38, false)⟩,
  ⟨some 40, .load false 1 (.t 39), some (38, false)⟩,
  ⟨some 41, .mv (.t 3), some (38, false)⟩,
  ⟨some 42, .iaddr 1 (.t 40) (.t 41), some (38, false)⟩,
  ⟨some 43, .load false 1 (.t 42), some (38, false)⟩,
  ⟨some 44, .len false (.t 43), some (38, false)⟩,
  ⟨some 45, .bin .gtr (.t 44) (.c (.int .i64 50)), some (38, false)⟩,
  ⟨some 46, .pick (.t 38) (.c (.bool true)) (.t 45), none⟩])
 (.cond (.t 46) (.seq (.region 0 [⟨some 2, .mv (.c (.bool false)), none⟩])
 .ret) .skip)))
 (.region 0 [⟨some 9, .mv (.t 3), none⟩,
  ⟨some 10, .bin .add (.t 9) (.c (.int .i64 1)), none⟩,
  ⟨some 3, .mv (.t 10), none⟩])))
def spec_IsValidStore_r0 : AC :=
 (.seq (.region 0 [⟨some 47, .faddr 0 0 (.t 1), none⟩,
  ⟨some 48, .load false 1 (.t 47), none⟩,
  ⟨some 49, .len false (.t 48), none⟩,
  ⟨some 50, .bin .eql (.t 49) (.c (.int .i64 6)), none⟩,
  ⟨some 2, .mv (.t 50), none⟩])
 .ret)
def spec_IsValidStore_ac : AC :=
 (.seq (.region 0 [⟨some 1, .box false 1 (.t 0), none⟩,
  ⟨some 2, .mv (.c (.bool false)), none⟩])
 (.seq (.seq (.region 0 [⟨some 3, .mv (.c (.int .i64 0)), none⟩])
 (.block 0 (.loop ⟨[1, 3], [], [(1, false)]⟩ spec_IsValidStore_b0)))
 spec_IsValidStore_r0))
noncomputable def spec_IsValidStore_l0 (E : Env) (x3 : U) (b1 : U) : Option U := loopK (roundOf E ⟨[1, 3], [], [(1, false)]⟩ spec_IsValidStore_b0 (blockK 0 (seqK (fun s => exec E spec_IsValidStore_r0 s (finish [(2, none)])) (finish [(2, none)])))) ([.ptr 1 [], .val x3], [.box (.val b1)])
theorem spec_IsValidStore_eq (E : Env) (a0 : U) : run E spec_IsValidStore_ac [(2, none)] [a0] =
 U.noTup a0 fun x1 => spec_IsValidStore_l0 E (.int .i64 0) x1 := by kernel_rfl
theorem spec_IsValidStore_l0_eq (E : Env) (x3 : U) (b1 : U) : spec_IsValidStore_l0 E x3 b1 =
 U.asAgg b1 fun us2 => if 0 = sizes (us2.take 0) then (us2[0]?).bind fun e3 => U.asVar false 1 e3 fun e4 => (U.lenOf false e4).bind fun n5 => (U.bin .lss x3 (.int .i64 (n5 : Int))).bind fun t6 => U.asBool t6
 (U.asAgg b1 fun us7 => if 0 = sizes (us7.take 0) then (us7[0]?).bind fun e8 => U.asVar false 1 e8 fun e9 => U.asInt x3 fun n10 => U.elemAt 1 e9 n10 fun e11 => U.asVar false 1 e11 fun e12 => (E 104 [e12]).bind fun t13 => (U.un .not t13).bind fun t14 => U.asBool t14
 (some (.bool false))
 (U.asAgg b1 fun us15 => if 0 = sizes (us15.take 0) then (us15[0]?).bind fun e16 => U.asVar false 1 e16 fun e17 => U.asInt x3 fun n18 => U.elemAt 1 e17 n18 fun e19 => U.asVar false 1 e19 fun e20 => U.elemAt 5 e20 0 fun e21 => U.fieldAt 2 2 e21 fun f22 => U.asVar false 1 f22 fun e23 => (U.bin .gtr e23 (.int .i64 0)).bind fun t24 => U.asBool t24
 (U.asAgg b1 fun us25 => if 0 = sizes (us25.take 0) then (us25[0]?).bind fun e26 => U.asVar false 1 e26 fun e27 => U.asInt x3 fun n28 => U.elemAt 1 e27 n28 fun e29 => U.asVar false 1 e29 fun e30 => (U.lenOf false e30).bind fun n31 => (U.bin .gtr (.int .i64 (n31 : Int)) (.int .i64 50)).bind fun t32 => U.asBool t32
 (some (.bool false))
 (U.asAgg b1 fun us33 => if 0 = sizes (us33.take 0) then (us33[0]?).bind fun e34 => U.asVar false 1 e34 fun e35 => U.asInt x3 fun n36 => U.elemAt 1 e35 n36 fun e37 => U.asVar false 1 e37 fun e38 => (U.lenOf false e38).bind fun n39 => (U.bin .gtr (.int .i64 (n39 : Int)) (.int .i64 50)).bind fun t40 => U.asBool t40
 (some (.bool false))
 ((U.bin .add x3 (.int .i64 1)).bind fun t41 => spec_IsValidStore_l0 E t41 b1) else none) else none)
 (U.asAgg b1 fun us42 => if 0 = sizes (us42.take 0) then (us42[0]?).bind fun e43 => U.asVar false 1 e43 fun e44 => U.asInt x3 fun n45 => U.elemAt 1 e44 n45 fun e46 => U.asVar false 1 e46 fun e47 => (U.lenOf false e47).bind fun n48 => (U.bin .gtr (.int .i64 (n48 : Int)) (.int .i64 50)).bind fun t49 => U.asBool t49
 (some (.bool false))
 ((U.bin .add x3 (.int .i64 1)).bind fun t50 => spec_IsValidStore_l0 E t50 b1) else none) else none) else none)
 (U.asAgg b1 fun us51 => if 0 = sizes (us51.take 0) then (us51[0]?).bind fun e52 => U.asVar false 1 e52 fun e53 => (U.lenOf false e53).bind fun n54 => (U.bin .eql (.int .i64 (n54 : Int)) (.int .i64 6)).bind fun t55 => some t55 else none) else none :=
 (loop_eq E _ _ _ _).trans (by kernel_rfl)

/-- In the environment E: this function and those that it calls. -/
structure G_spec_IsValidStore (E : Env) : Prop where
  is : Is E 103 1 spec_IsValidStore_ac [(2, none)]
  c_spec_IsValidChain : G_spec_IsValidChain E
theorem spec_IsValidStore_E {E : Env} (h : G_spec_IsValidStore E) (a0 : U) : E 103 [a0] =
 U.noTup a0 fun x1 => spec_IsValidStore_l0 E (.int .i64 0) x1 := (h.is _ rfl).trans ((runQ_V rfl).trans (spec_IsValidStore_eq E a0))

end Go.Proofs.Ytmebdbagcbgddaa.Am
namespace Go.Proofs.Ytmebdbagcbgddaa.Am
open Go
set_option linter.unusedVariables false
set_option maxRecDepth 100000

/- loop.example/g01924/spec.VersionAt -/
def spec_VersionAt_b0 : AC :=
 (.seq (.seq (.region 0 [⟨some 7, .mv (.t 6), none⟩,
  ⟨some 8, .mv (.t 0), none⟩,
  ⟨some 9, .len false (.t 8), none⟩,
  ⟨some 10, .bin .lss (.t 7) (.t 9), none⟩,
  ⟨some 11, .mv (.t 10), none⟩,
  ⟨some 12, .mv (.t 0), some (11, true)⟩,
  ⟨some 13, .call false 104 [(.t 12)], some (11, true)⟩,
  ⟨some 14, .pick (.t 11) (.t 13) (.c (.bool false)), none⟩])
 (.cond (.t 14) .skip (.exit 0)))
 (.seq (.block 1 (.seq (.region 0 [⟨some 17, .mv (.t 0), none⟩,
  ⟨some 18, .mv (.t 6), none⟩,
  ⟨some 19, .iaddr 5 (.t 17) (.t 18), none⟩,
  ⟨some 20, .faddr 2 2 (.t 19), none⟩,
  ⟨some 21, .load false 1 (.t 20), none⟩,
  ⟨some 22, .mv (.t 1), none⟩,
  ⟨some 23, .bin .leq (.t 21) (.t 22), none⟩])
 (.cond (.t 23) (.region 0 [⟨some 24, .mv (.t 6), none⟩,
  ⟨some 5, .mv (.t 24), none⟩]) .skip)))
 (.region 0 [⟨some 15, .mv (.t 6), none⟩,
  ⟨some 16, .bin .add (.t 15) (.c (.int .i64 1)), none⟩,
  ⟨some 6, .mv (.t 16), none⟩])))
def spec_VersionAt_r0 : AC :=
 (.seq (.region 0 [⟨some 25, .mv (.t 5), none⟩,
  ⟨some 4, .mv (.t 25), none⟩])
 .ret)
def spec_VersionAt_ac : AC :=
 (.seq (.region 0 [⟨some 4, .mv (.c (.int .i64 0)), none⟩])
 (.seq (.region 0 [⟨some 5, .mv (.c (.int .i64 (-1))), none⟩])
 (.seq (.seq (.region 0 [⟨some 6, .mv (.c (.int .i64 0)), none⟩])
 (.block 0 (.loop ⟨[0, 1, 5, 6], [], []⟩ spec_VersionAt_b0)))
 spec_VersionAt_r0)))
noncomputable def spec_VersionAt_l0 (E : Env) (x0 : U) (x1 : U) (x5 : U) (x6 : U) : Option U := loopK (roundOf E ⟨[0, 1, 5, 6], [], []⟩ spec_VersionAt_b0 (blockK 0 (seqK (fun s => exec E spec_VersionAt_r0 s (finish [(4, none)])) (finish [(4, none)])))) ([.val x0, .val x1, .val x5, .val x6], [])
theorem spec_VersionAt_eq (E : Env) (a0 : U) (a1 : U) : run E spec_VersionAt_ac [(4, none)] [a0, a1] =
 spec_VersionAt_l0 E a0 a1 (.int .i64 (-1)) (.int .i64 0) := by kernel_rfl
theorem spec_VersionAt_l0_eq (E : Env) (x0 : U) (x1 : U) (x5 : U) (x6 : U) : spec_VersionAt_l0 E x0 x1 x5 x6 =
 (U.lenOf false x0).bind fun n1 => (U.bin .lss x6 (.int .i64 (n1 : Int))).bind fun t2 => U.asBool t2
 ((E 104 [x0]).bind fun t3 => U.asBool t3
 (U.asInt x6 fun n4 => U.elemAt 5 x0 n4 fun e5 => U.fieldAt 2 2 e5 fun f6 => U.asVar false 1 f6 fun e7 => (U.bin .leq e7 x1).bind fun t8 => U.asBool t8
 ((U.bin .add x6 (.int .i64 1)).bind fun t9 => spec_VersionAt_l0 E x0 x1 x6 t9)
 ((U.bin .add x6 (.int .i64 1)).bind fun t10 => spec_VersionAt_l0 E x0 x1 x5 t10))
 (some x5))
 (some x5) :=
 (loop_eq E _ _ _ _).trans (by kernel_rfl)

/-- In the environment E: this function and those that it calls. -/
structure G_spec_VersionAt (E : Env) : Prop where
  is : Is E 106 2 spec_VersionAt_ac [(4, none)]
  c_spec_IsValidChain : G_spec_IsValidChain E
theorem spec_VersionAt_E {E : Env} (h : G_spec_VersionAt E) (a0 a1 : U) : E 106 [a0, a1] =
 spec_VersionAt_l0 E a0 a1 (.int .i64 (-1)) (.int .i64 0) := (h.is _ rfl).trans ((runQ_V rfl).trans (spec_VersionAt_eq E a0 a1))

end Go.Proofs.Ytmebdbagcbgddaa.Am
namespace Go.Proofs.Ytmebdbagcbgddaa.Am
open Go
set_option linter.unusedVariables false
set_option maxRecDepth 100000

/- loop.example/g01924/spec.ReadAt -/
def spec_ReadAt_ac : AC :=
 (.seq (.region 0 [⟨some 3, .box false 3 (.t 0), none⟩,
  ⟨some 6, .alloc 6 (.agg [(.int .i64 0), (.int .i64 0), (.int .i64 0), (.int .i64 0), (.int .i64 0)]), none⟩,
  ⟨some 7, .mv (.c (.bool false)), none⟩])
 (.seq (.seq (.region 0 [⟨some 9, .load true 1 (.t 3), none⟩,
  ⟨some 10, .call false 103 [(.t 9)], none⟩,
  ⟨some 11, .un .not (.t 10), none⟩,
  ⟨some 12, .mv (.t 11), none⟩,
  ⟨some 13, .mv (.t 1), some (12, false)⟩,
  ⟨some 14, .call false 6 [(.t 13), (.c (.int .i64 0)), (.c (.int .i64 5))], some (12, false)⟩,
  ⟨some 15, .un .not (.t 14), some (12, false)⟩,
  ⟨some 16, .pick (.t 12) (.c (.bool true)) (.t 15), none⟩])
 (.cond (.t 16) (.seq (.region 0 [⟨some 17, .build [(.int .i64 0), (.int .i64 0), (.int .i64 0), (.int .i64 0), (.int .i64 0)] [], none⟩,
  ⟨none, .store 5 (.t 6) (.t 17), none⟩,
  ⟨some 7, .mv (.c (.bool false)), none⟩])
 .ret) .skip))
 (.seq (.region 0 [⟨some 18, .faddr 0 0 (.t 3), none⟩,
  ⟨some 19, .load false 1 (.t 18), none⟩,
  ⟨some 20, .mv (.t 1), none⟩,
  ⟨some 21, .iaddr 1 (.t 19) (.t 20), none⟩,
  ⟨some 22, .load false 1 (.t 21), none⟩,
  ⟨some 23, .mv (.t 2), none⟩,
  ⟨some 24, .call false 106 [(.t 22), (.t 23)], none⟩,
  ⟨some 8, .mv (.t 24), none⟩])
 (.seq (.seq (.region 0 [⟨some 25, .mv (.t 8), none⟩,
  ⟨some 26, .bin .lss (.t 25) (.c (.int .i64 0)), none⟩])
 (.cond (.t 26) (.seq (.region 0 [⟨some 27, .build [(.int .i64 0), (.int .i64 0), (.int .i64 0), (.int .i64 0), (.int .i64 0)] [], none⟩,
  ⟨none, .store 5 (.t 6) (.t 27), none⟩,
  ⟨some 7, .mv (.c (.bool false)), none⟩])
 .ret) .skip))
 (.seq (.region 0 [⟨some 28, .faddr 0 0 (.t 3), none⟩,
  ⟨some 29, .load false 1 (.t 28), none⟩,
  ⟨some 30, .mv (.t 1), none⟩,
  ⟨some 31, .iaddr 1 (.t 29) (.t 30), none⟩,
  ⟨some 32, .load false 1 (.t 31), none⟩,
  ⟨some 33, .mv (.t 8), none⟩,
  ⟨some 34, .iaddr 5 (.t 32) (.t 33), none⟩,
  ⟨some 35, .load true 5 (.t 34), none⟩,
  ⟨none, .store 5 (.t 6) (.t 35), none⟩,
  ⟨some 7, .mv (.c (.bool true)), none⟩])
 .ret)))))

theorem spec_ReadAt_eq (E : Env) (a0 : U) (a1 : U) (a2 : U) : run E spec_ReadAt_ac [(6, some (true, 5)), (7, none)] [a0, a1, a2] =
 U.noTup a0 fun x1 => U.asVar true 1 x1 fun e2 => (E 103 [e2]).bind fun t3 => (U.un .not t3).bind fun t4 => U.asBool t4
 (some (.tup [(.agg [(.int .i64 0), (.int .i64 0), (.int .i64 0), (.int .i64 0), (.int .i64 0)]), (.bool false)]))
 ((E 6 [a1, (.int .i64 0), (.int .i64 5)]).bind fun t5 => (U.un .not t5).bind fun t6 => U.asBool t6
 (some (.tup [(.agg [(.int .i64 0), (.int .i64 0), (.int .i64 0), (.int .i64 0), (.int .i64 0)]), (.bool false)]))
 (U.asAgg x1 fun us7 => if 0 = sizes (us7.take 0) then (us7[0]?).bind fun e8 => U.asVar false 1 e8 fun e9 => U.asInt a1 fun n10 => U.elemAt 1 e9 n10 fun e11 => U.asVar false 1 e11 fun e12 => (E 106 [e12, a2]).bind fun t13 => (U.bin .lss t13 (.int .i64 0)).bind fun t14 => U.asBool t14
 (some (.tup [(.agg [(.int .i64 0), (.int .i64 0), (.int .i64 0), (.int .i64 0), (.int .i64 0)]), (.bool false)]))
 (U.asAgg x1 fun us15 => if 0 = sizes (us15.take 0) then (us15[0]?).bind fun e16 => U.asVar false 1 e16 fun e17 => U.asInt a1 fun n18 => U.elemAt 1 e17 n18 fun e19 => U.asVar false 1 e19 fun e20 => U.asInt t13 fun n21 => U.elemAt 5 e20 n21 fun e22 => U.asVar true 5 e22 fun e23 => if storable (.val e23) = true ∧ e23.size = 5 then U.asVar true 5 e23 fun e24 => U.noTup e24 fun x25 => some (.tup [x25, (.bool true)]) else none else none) else none)) := by kernel_rfl

/-- In the environment E: this function and those that it calls. -/
structure G_spec_ReadAt (E : Env) : Prop where
  is : Is E 102 3 spec_ReadAt_ac [(6, some (true, 5)), (7, none)]
  c_spec_l1In : G_spec_l1In E
  c_spec_IsValidStore : G_spec_IsValidStore E
  c_spec_VersionAt : G_spec_VersionAt E
theorem spec_ReadAt_E {E : Env} (h : G_spec_ReadAt E) (a0 a1 a2 : U) : E 102 [a0, a1, a2] =
 U.noTup a0 fun x1 => U.asVar true 1 x1 fun e2 => (E 103 [e2]).bind fun t3 => (U.un .not t3).bind fun t4 => U.asBool t4
 (some (.tup [(.agg [(.int .i64 0), (.int .i64 0), (.int .i64 0), (.int .i64 0), (.int .i64 0)]), (.bool false)]))
 ((E 6 [a1, (.int .i64 0), (.int .i64 5)]).bind fun t5 => (U.un .not t5).bind fun t6 => U.asBool t6
 (some (.tup [(.agg [(.int .i64 0), (.int .i64 0), (.int .i64 0), (.int .i64 0), (.int .i64 0)]), (.bool false)]))
 (U.asAgg x1 fun us7 => if 0 = sizes (us7.take 0) then (us7[0]?).bind fun e8 => U.asVar false 1 e8 fun e9 => U.asInt a1 fun n10 => U.elemAt 1 e9 n10 fun e11 => U.asVar false 1 e11 fun e12 => (E 106 [e12, a2]).bind fun t13 => (U.bin .lss t13 (.int .i64 0)).bind fun t14 => U.asBool t14
 (some (.tup [(.agg [(.int .i64 0), (.int .i64 0), (.int .i64 0), (.int .i64 0), (.int .i64 0)]), (.bool false)]))
 (U.asAgg x1 fun us15 => if 0 = sizes (us15.take 0) then (us15[0]?).bind fun e16 => U.asVar false 1 e16 fun e17 => U.asInt a1 fun n18 => U.elemAt 1 e17 n18 fun e19 => U.asVar false 1 e19 fun e20 => U.asInt t13 fun n21 => U.elemAt 5 e20 n21 fun e22 => U.asVar true 5 e22 fun e23 => if storable (.val e23) = true ∧ e23.size = 5 then U.asVar true 5 e23 fun e24 => U.noTup e24 fun x25 => some (.tup [x25, (.bool true)]) else none else none) else none)) := (h.is _ rfl).trans ((runQ_V rfl).trans (spec_ReadAt_eq E a0 a1 a2))

end Go.Proofs.Ytmebdbagcbgddaa.Am
namespace Go.Proofs.Ytmebdbagcbgddaa.Am
open Go
set_option linter.unusedVariables false
set_option maxRecDepth 100000

/- loop.example/g01924/spec.MarksAt -/
def spec_MarksAt_b0 : AC :=
 (.seq (.seq (.region 0 [⟨some 10, .mv (.t 6), none⟩,
  ⟨some 11, .bin .lss (.t 10) (.c (.int .i64 6)), none⟩,
  ⟨some 12, .mv (.t 11), none⟩,
  ⟨some 13, .load true 1 (.t 2), some (12, true)⟩,
  ⟨some 14, .call false 103 [(.t 13)], some (12, true)⟩,
  ⟨some 15, .pick (.t 12) (.t 14) (.c (.bool false)), none⟩])
 (.cond (.t 15) .skip (.exit 0)))
 (.seq (.block 1 (.seq (.region 0 [⟨some 19, .load true 1 (.t 2), none⟩,
  ⟨some 20, .mv (.t 6), none⟩,
  ⟨some 21, .mv (.t 1), none⟩,
  ⟨some 22, .call false 102 [(.t 19), (.t 20), (.t 21)], none⟩,
  ⟨some 18, .mv (.t 22), none⟩,
  ⟨some 23, .extract 0 (.t 18), none⟩,
  ⟨some 24, .extract 1 (.t 18), none⟩,
  ⟨some 7, .alloc 7 (.agg [(.int .i64 0), (.int .i64 0), (.int .i64 0), (.int .i64 0), (.int .i64 0)]), none⟩,
  ⟨none, .store 5 (.t 7) (.t 23), none⟩,
  ⟨some 8, .mv (.t 24), none⟩])
 (.seq (.seq (.region 0 [⟨some 25, .mv (.t 8), none⟩,
  ⟨some 26, .un .not (.t 25), none⟩])
 (.cond (.t 26) (.seq (.region 0 [⟨some 27, .bslice 1 27 2 0 (.agg [(.int .i64 0), (.int .i64 0)]) [], none⟩,
  ⟨some 4, .mv (.t 27), none⟩])
 .ret) .skip))
 (.region 0 [⟨some 28, .mv (.t 5), none⟩,
  ⟨some 29, .mv (.t 6), none⟩,
  ⟨some 30, .faddr 2 2 (.t 7), none⟩,
  ⟨some 31, .load false 1 (.t 30), none⟩,
  ⟨some 32, .build [(.int .i64 0), (.int .i64 0)] [(0, (.t 29)), (1, (.t 31))], none⟩,
  ⟨some 33, .bslice 0 33 2 1 (.agg [(.int .i64 0), (.int .i64 0)]) [(0, (.t 32))], none⟩,
  ⟨some 34, .append false 34 2 16 (.t 28) (.t 33), none⟩,
  ⟨some 5, .mv (.t 34), none⟩]))))
 (.region 0 [⟨some 16, .mv (.t 6), none⟩,
  ⟨some 17, .bin .add (.t 16) (.c (.int .i64 1)), none⟩,
  ⟨some 6, .mv (.t 17), none⟩])))
def spec_MarksAt_r0 : AC :=
 (.seq (.region 0 [⟨some 35, .mv (.t 5), none⟩,
  ⟨some 4, .mv (.t 35), none⟩])
 .ret)
def spec_MarksAt_ac : AC :=
 (.seq (.region 0 [⟨some 2, .box false 2 (.t 0), none⟩,
  ⟨some 4, .mv (.c (.nsl 2)), none⟩])
 (.seq (.region 0 [⟨some 9, .bslice 1 9 2 0 (.agg [(.int .i64 0), (.int .i64 0)]) [], none⟩,
  ⟨some 5, .mv (.t 9), none⟩])
 (.seq (.seq (.region 0 [⟨some 6, .mv (.c (.int .i64 0)), none⟩])
 (.block 0 (.loop ⟨[1, 2, 6], [(5, 2, false)], [(2, false)]⟩ spec_MarksAt_b0)))
 spec_MarksAt_r0)))
noncomputable def spec_MarksAt_l0 (E : Env) (x1 : U) (x6 : U) (c5 : List U) (b2 : U) : Option U := loopK (roundOf E ⟨[1, 2, 6], [(5, 2, false)], [(2, false)]⟩ spec_MarksAt_b0 (blockK 0 (seqK (fun s => exec E spec_MarksAt_r0 s (finish [(4, none)])) (finish [(4, none)])))) ([.val x1, .ptr 2 [], .val x6], [.vir (.asl 2 c5), .box (.val b2)])
theorem spec_MarksAt_eq (E : Env) (a0 : U) (a1 : U) : run E spec_MarksAt_ac [(4, none)] [a0, a1] =
 U.noTup a0 fun x1 => spec_MarksAt_l0 E a1 (.int .i64 0) [] x1 := by kernel_rfl
theorem spec_MarksAt_l0_eq (E : Env) (x1 : U) (x6 : U) (c5 : List U) (b2 : U) : spec_MarksAt_l0 E x1 x6 c5 b2 =
 (U.bin .lss x6 (.int .i64 6)).bind fun t2 => U.asBool t2
 (U.asVar true 1 b2 fun e3 => (E 103 [e3]).bind fun t4 => U.asBool t4
 (U.asVar true 1 b2 fun e5 => (E 102 [e5, x6, x1]).bind fun t6 => U.part 0 t6 fun p7 => U.part 1 t6 fun p8 => if storable (.val p7) = true ∧ p7.size = 5 then (U.un .not p8).bind fun t9 => U.asBool t9
 (some (.sl 2 []))
 (U.asAgg p7 fun us10 => if 2 = sizes (us10.take 2) then (us10[2]?).bind fun e11 => U.asVar false 1 e11 fun e12 => if partable (.val x6) = true ∧ x6.size = 1 then if partable (.val e12) = true ∧ e12.size = 1 then if partable (.val (.agg [x6, e12])) = true ∧ ((.agg [x6, e12]) : U).size = 2 then if 2 = 2 ∧ 2 = 2 ∧ ((c5).length + ([(.agg [x6, e12])] : List U).length) * 16 ≤ 140737488355328 then (U.bin .add x6 (.int .i64 1)).bind fun t13 => spec_MarksAt_l0 E x1 t13 (c5 ++ [(.agg [x6, e12])]) b2 else none else none else none else none else none) else none)
 (some (.sl 2 c5)))
 (some (.sl 2 c5)) :=
 (loop_eq E _ _ _ _).trans (by kernel_rfl)

/-- In the environment E: this function and those that it calls. -/
structure G_spec_MarksAt (E : Env) : Prop where
  is : Is E 98 2 spec_MarksAt_ac [(4, none)]
  c_spec_IsValidStore : G_spec_IsValidStore E
  c_spec_ReadAt : G_spec_ReadAt E
theorem spec_MarksAt_E {E : Env} (h : G_spec_MarksAt E) (a0 a1 : U) : E 98 [a0, a1] =
 U.noTup a0 fun x1 => spec_MarksAt_l0 E a1 (.int .i64 0) [] x1 := (h.is _ rfl).trans ((runQ_V rfl).trans (spec_MarksAt_eq E a0 a1))

end Go.Proofs.Ytmebdbagcbgddaa.Am
namespace Go.Proofs.Ytmebdbagcbgddaa.Am
open Go
set_option linter.unusedVariables false
set_option maxRecDepth 100000

/- loop.example/g01924/laws.toVersion -/
def laws_toVersion_ac : AC :=
 (.seq (.region 0 [⟨some 1, .box false 1 (.t 0), none⟩,
  ⟨some 2, .alloc 2 (.agg [(.int .i64 0), (.int .i64 0), (.int .i64 0), (.int .i64 0), (.int .i64 0)]), none⟩])
 (.seq (.region 0 [⟨some 3, .alloc 3 (.agg [(.int .i64 0), (.int .i64 0), (.int .i64 0), (.int .i64 0), (.int .i64 0)]), none⟩])
 (.seq (.region 0 [⟨some 4, .faddr 0 0 (.t 1), none⟩,
  ⟨some 5, .load false 1 (.t 4), none⟩,
  ⟨some 6, .faddr 0 0 (.t 3), none⟩,
  ⟨none, .store 1 (.t 6) (.t 5), none⟩])
 (.seq (.region 0 [⟨some 7, .faddr 1 1 (.t 1), none⟩,
  ⟨some 8, .load false 1 (.t 7), none⟩,
  ⟨some 9, .faddr 1 1 (.t 3), none⟩,
  ⟨none, .store 1 (.t 9) (.t 8), none⟩])
 (.seq (.region 0 [⟨some 10, .faddr 2 2 (.t 1), none⟩,
  ⟨some 11, .load false 1 (.t 10), none⟩,
  ⟨some 12, .faddr 2 2 (.t 3), none⟩,
  ⟨none, .store 1 (.t 12) (.t 11), none⟩])
 (.seq (.region 0 [⟨some 13, .faddr 3 3 (.t 1), none⟩,
  ⟨some 14, .load false 1 (.t 13), none⟩,
  ⟨some 15, .faddr 3 3 (.t 3), none⟩,
  ⟨none, .store 1 (.t 15) (.t 14), none⟩])
 (.seq (.region 0 [⟨some 16, .faddr 4 4 (.t 1), none⟩,
  ⟨some 17, .load false 1 (.t 16), none⟩,
  ⟨some 18, .faddr 4 4 (.t 3), none⟩,
  ⟨none, .store 1 (.t 18) (.t 17), none⟩])
 (.seq (.region 0 [⟨some 19, .load true 5 (.t 3), none⟩,
  ⟨none, .store 5 (.t 2) (.t 19), none⟩])
 .ret))))))))

theorem laws_toVersion_eq (E : Env) (a0 : U) : run E laws_toVersion_ac [(2, some (true, 5))] [a0] =
 U.noTup a0 fun x1 => U.asAgg x1 fun us2 => if 0 = sizes (us2.take 0) then (us2[0]?).bind fun e3 => U.asVar false 1 e3 fun e4 => if storable (.val e4) = true ∧ e4.size = 1 then U.asAgg x1 fun us5 => if 1 = sizes (us5.take 1) then (us5[1]?).bind fun e6 => U.asVar false 1 e6 fun e7 => if storable (.val e7) = true ∧ e7.size = 1 then if 1 = sizes [e4] then U.asAgg x1 fun us8 => if 2 = sizes (us8.take 2) then (us8[2]?).bind fun e9 => U.asVar false 1 e9 fun e10 => if storable (.val e10) = true ∧ e10.size = 1 then if 2 = sizes [e4, e7] then U.asAgg x1 fun us11 => if 3 = sizes (us11.take 3) then (us11[3]?).bind fun e12 => U.asVar false 1 e12 fun e13 => if storable (.val e13) = true ∧ e13.size = 1 then if 3 = sizes [e4, e7, e10] then U.asAgg x1 fun us14 => if 4 = sizes (us14.take 4) then (us14[4]?).bind fun e15 => U.asVar false 1 e15 fun e16 => if storable (.val e16) = true ∧ e16.size = 1 then if 4 = sizes [e4, e7, e10, e13] then U.asVar true 5 (.agg [e4, e7, e10, e13, e16]) fun e17 => if storable (.val e17) = true ∧ e17.size = 5 then U.asVar true 5 e17 fun e18 => some e18 else none else none else none else none else none else none else none else none else none else none else none else none else none else none else none := by kernel_rfl

/-- In the environment E: this function and those that it calls. -/
structure G_laws_toVersion (E : Env) : Prop where
  is : Is E 109 1 laws_toVersion_ac [(2, some (true, 5))]
theorem laws_toVersion_E {E : Env} (h : G_laws_toVersion E) (a0 : U) : E 109 [a0] =
 U.noTup a0 fun x1 => U.asAgg x1 fun us2 => if 0 = sizes (us2.take 0) then (us2[0]?).bind fun e3 => U.asVar false 1 e3 fun e4 => if storable (.val e4) = true ∧ e4.size = 1 then U.asAgg x1 fun us5 => if 1 = sizes (us5.take 1) then (us5[1]?).bind fun e6 => U.asVar false 1 e6 fun e7 => if storable (.val e7) = true ∧ e7.size = 1 then if 1 = sizes [e4] then U.asAgg x1 fun us8 => if 2 = sizes (us8.take 2) then (us8[2]?).bind fun e9 => U.asVar false 1 e9 fun e10 => if storable (.val e10) = true ∧ e10.size = 1 then if 2 = sizes [e4, e7] then U.asAgg x1 fun us11 => if 3 = sizes (us11.take 3) then (us11[3]?).bind fun e12 => U.asVar false 1 e12 fun e13 => if storable (.val e13) = true ∧ e13.size = 1 then if 3 = sizes [e4, e7, e10] then U.asAgg x1 fun us14 => if 4 = sizes (us14.take 4) then (us14[4]?).bind fun e15 => U.asVar false 1 e15 fun e16 => if storable (.val e16) = true ∧ e16.size = 1 then if 4 = sizes [e4, e7, e10, e13] then U.asVar true 5 (.agg [e4, e7, e10, e13, e16]) fun e17 => if storable (.val e17) = true ∧ e17.size = 5 then U.asVar true 5 e17 fun e18 => some e18 else none else none else none else none else none else none else none else none else none else none else none else none else none else none else none := (h.is _ rfl).trans ((runQ_V rfl).trans (laws_toVersion_eq E a0))

end Go.Proofs.Ytmebdbagcbgddaa.Am
namespace Go.Proofs.Ytmebdbagcbgddaa.Am
open Go
set_option linter.unusedVariables false
set_option maxRecDepth 100000

/- loop.example/g01924/laws.toVersionS -/
def laws_toVersionS_b0 : AC :=
 (.seq (.seq (.region 0 [⟨some 8, .mv (.t 4), none⟩,
  ⟨some 9, .mv (.t 0), none⟩,
  ⟨some 10, .len false (.t 9), none⟩,
  ⟨some 11, .bin .lss (.t 8) (.t 10), none⟩])
 (.cond (.t 11) .skip (.exit 0)))
 (.seq (.block 1 (.region 0 [⟨some 14, .mv (.t 3), none⟩,
  ⟨some 15, .mv (.t 4), none⟩,
  ⟨some 16, .mv (.t 0), none⟩,
  ⟨some 17, .mv (.t 4), none⟩,
  ⟨some 18, .iaddr 5 (.t 16) (.t 17), none⟩,
  ⟨some 19, .load true 5 (.t 18), none⟩,
  ⟨some 20, .call false 109 [(.t 19)], none⟩,
  ⟨some 21, .iaddr 5 (.t 14) (.t 15), none⟩,
  ⟨none, .store 5 (.t 21) (.t 20), none⟩]))
 (.region 0 [⟨some 12, .mv (.t 4), none⟩,
  ⟨some 13, .bin .add (.t 12) (.c (.int .i64 1)), none⟩,
  ⟨some 4, .mv (.t 13), none⟩])))
def laws_toVersionS_r0 : AC :=
 (.seq (.region 0 [⟨some 22, .mv (.t 3), none⟩,
  ⟨some 2, .mv (.t 22), none⟩])
 .ret)
def laws_toVersionS_ac : AC :=
 (.seq (.region 0 [⟨some 2, .mv (.c (.nsl 5)), none⟩])
 (.seq (.region 0 [⟨some 5, .mv (.t 0), none⟩,
  ⟨some 6, .len false (.t 5), none⟩,
  ⟨some 7, .mkslice 7 5 40 (.agg [(.int .i64 0), (.int .i64 0), (.int .i64 0), (.int .i64 0), (.int .i64 0)]) (.t 6) (.t 6), none⟩,
  ⟨some 3, .mv (.t 7), none⟩])
 (.seq (.seq (.region 0 [⟨some 4, .mv (.c (.int .i64 0)), none⟩])
 (.block 0 (.loop ⟨[0, 4], [(3, 5, false)], []⟩ laws_toVersionS_b0)))
 laws_toVersionS_r0)))
noncomputable def laws_toVersionS_l0 (E : Env) (x0 : U) (x4 : U) (c3 : List U) : Option U := loopK (roundOf E ⟨[0, 4], [(3, 5, false)], []⟩ laws_toVersionS_b0 (blockK 0 (seqK (fun s => exec E laws_toVersionS_r0 s (finish [(2, none)])) (finish [(2, none)])))) ([.val x0, .val x4], [.vir (.asl 5 c3)])
theorem laws_toVersionS_eq (E : Env) (a0 : U) : run E laws_toVersionS_ac [(2, none)] [a0] =
 (U.lenOf false a0).bind fun n1 => if 0 ≤ (n1 : Int) ∧ (n1 : Int) ≤ (n1 : Int) ∧ (n1 : Int) * 40 ≤ 140737488355328 ∧ ((.agg [(.int .i64 0), (.int .i64 0), (.int .i64 0), (.int .i64 0), (.int .i64 0)]) : U).size = 5 then laws_toVersionS_l0 E a0 (.int .i64 0) (List.replicate ((n1 : Int) : Int).toNat (.agg [(.int .i64 0), (.int .i64 0), (.int .i64 0), (.int .i64 0), (.int .i64 0)])) else none := by kernel_rfl
theorem laws_toVersionS_l0_eq (E : Env) (x0 : U) (x4 : U) (c3 : List U) : laws_toVersionS_l0 E x0 x4 c3 =
 (U.lenOf false x0).bind fun n2 => (U.bin .lss x4 (.int .i64 (n2 : Int))).bind fun t3 => U.asBool t3
 (U.asInt x4 fun n4 => U.elemAt 5 x0 n4 fun e5 => U.asVar true 5 e5 fun e6 => (E 109 [e6]).bind fun t7 => U.asInt x4 fun n8 => if 5 = 5 ∧ 0 ≤ n8 ∧ n8 < ((c3).length : Int) then if storable (.val t7) = true ∧ t7.size = 5 then (c3[(n8 : Int).toNat]?).bind fun e9 => if e9.size = 5 then (U.bin .add x4 (.int .i64 1)).bind fun t10 => laws_toVersionS_l0 E x0 t10 (c3.set (n8 : Int).toNat t7) else none else none else none)
 (some (.sl 5 c3)) :=
 (loop_eq E _ _ _ _).trans (by kernel_rfl)

/-- In the environment E: this function and those that it calls. -/
structure G_laws_toVersionS (E : Env) : Prop where
  is : Is E 108 1 laws_toVersionS_ac [(2, none)]
  c_laws_toVersion : G_laws_toVersion E
theorem laws_toVersionS_E {E : Env} (h : G_laws_toVersionS E) (a0 : U) : E 108 [a0] =
 (U.lenOf false a0).bind fun n1 => if 0 ≤ (n1 : Int) ∧ (n1 : Int) ≤ (n1 : Int) ∧ (n1 : Int) * 40 ≤ 140737488355328 ∧ ((.agg [(.int .i64 0), (.int .i64 0), (.int .i64 0), (.int .i64 0), (.int .i64 0)]) : U).size = 5 then laws_toVersionS_l0 E a0 (.int .i64 0) (List.replicate ((n1 : Int) : Int).toNat (.agg [(.int .i64 0), (.int .i64 0), (.int .i64 0), (.int .i64 0), (.int .i64 0)])) else none := (h.is _ rfl).trans ((runQ_V rfl).trans (laws_toVersionS_eq E a0))

end Go.Proofs.Ytmebdbagcbgddaa.Am
namespace Go.Proofs.Ytmebdbagcbgddaa.Am
open Go
set_option linter.unusedVariables false
set_option maxRecDepth 100000

/- loop.example/g01924/laws.toVersionSS -/
def laws_toVersionSS_b0 : AC :=
 (.seq (.seq (.region 0 [⟨some 8, .mv (.t 4), none⟩,
  ⟨some 9, .mv (.t 0), none⟩,
  ⟨some 10, .len false (.t 9), none⟩,
  ⟨some 11, .bin .lss (.t 8) (.t 10), none⟩])
 (.cond (.t 11) .skip (.exit 0)))
 (.seq (.block 1 (.region 0 [⟨some 14, .mv (.t 3), none⟩,
  ⟨some 15, .mv (.t 4), none⟩,
  ⟨some 16, .mv (.t 0), none⟩,
  ⟨some 17, .mv (.t 4), none⟩,
  ⟨some 18, .iaddr 1 (.t 16) (.t 17), none⟩,
  ⟨some 19, .load false 1 (.t 18), none⟩,
  ⟨some 20, .call false 108 [(.t 19)], none⟩,
  ⟨some 21, .iaddr 1 (.t 14) (.t 15), none⟩,
  ⟨none, .store 1 (.t 21) (.t 20), none⟩]))
 (.region 0 [⟨some 12, .mv (.t 4), none⟩,
  ⟨some 13, .bin .add (.t 12) (.c (.int .i64 1)), none⟩,
  ⟨some 4, .mv (.t 13), none⟩])))
def laws_toVersionSS_r0 : AC :=
 (.seq (.region 0 [⟨some 22, .mv (.t 3), none⟩,
  ⟨some 2, .mv (.t 22), none⟩])
 .ret)
def laws_toVersionSS_ac : AC :=
 (.seq (.region 0 [⟨some 2, .mv (.c (.nsl 1)), none⟩])
 (.seq (.region 0 [⟨some 5, .mv (.t 0), none⟩,
  ⟨some 6, .len false (.t 5), none⟩,
  ⟨some 7, .mkslice 7 1 24 (.nsl 5) (.t 6) (.t 6), none⟩,
  ⟨some 3, .mv (.t 7), none⟩])
 (.seq (.seq (.region 0 [⟨some 4, .mv (.c (.int .i64 0)), none⟩])
 (.block 0 (.loop ⟨[0, 4], [(3, 1, false)], []⟩ laws_toVersionSS_b0)))
 laws_toVersionSS_r0)))
noncomputable def laws_toVersionSS_l0 (E : Env) (x0 : U) (x4 : U) (c3 : List U) : Option U := loopK (roundOf E ⟨[0, 4], [(3, 1, false)], []⟩ laws_toVersionSS_b0 (blockK 0 (seqK (fun s => exec E laws_toVersionSS_r0 s (finish [(2, none)])) (finish [(2, none)])))) ([.val x0, .val x4], [.vir (.asl 1 c3)])
theorem laws_toVersionSS_eq (E : Env) (a0 : U) : run E laws_toVersionSS_ac [(2, none)] [a0] =
 (U.lenOf false a0).bind fun n1 => if 0 ≤ (n1 : Int) ∧ (n1 : Int) ≤ (n1 : Int) ∧ (n1 : Int) * 24 ≤ 140737488355328 ∧ ((.nsl 5) : U).size = 1 then laws_toVersionSS_l0 E a0 (.int .i64 0) (List.replicate ((n1 : Int) : Int).toNat (.nsl 5)) else none := by kernel_rfl
theorem laws_toVersionSS_l0_eq (E : Env) (x0 : U) (x4 : U) (c3 : List U) : laws_toVersionSS_l0 E x0 x4 c3 =
 (U.lenOf false x0).bind fun n2 => (U.bin .lss x4 (.int .i64 (n2 : Int))).bind fun t3 => U.asBool t3
 (U.asInt x4 fun n4 => U.elemAt 1 x0 n4 fun e5 => U.asVar false 1 e5 fun e6 => (E 108 [e6]).bind fun t7 => U.asInt x4 fun n8 => if 1 = 1 ∧ 0 ≤ n8 ∧ n8 < ((c3).length : Int) then if storable (.val t7) = true ∧ t7.size = 1 then (c3[(n8 : Int).toNat]?).bind fun e9 => if e9.size = 1 then (U.bin .add x4 (.int .i64 1)).bind fun t10 => laws_toVersionSS_l0 E x0 t10 (c3.set (n8 : Int).toNat t7) else none else none else none)
 (some (.sl 1 c3)) :=
 (loop_eq E _ _ _ _).trans (by kernel_rfl)

/-- In the environment E: this function and those that it calls. -/
structure G_laws_toVersionSS (E : Env) : Prop where
  is : Is E 107 1 laws_toVersionSS_ac [(2, none)]
  c_laws_toVersionS : G_laws_toVersionS E
theorem laws_toVersionSS_E {E : Env} (h : G_laws_toVersionSS E) (a0 : U) : E 107 [a0] =
 (U.lenOf false a0).bind fun n1 => if 0 ≤ (n1 : Int) ∧ (n1 : Int) ≤ (n1 : Int) ∧ (n1 : Int) * 24 ≤ 140737488355328 ∧ ((.nsl 5) : U).size = 1 then laws_toVersionSS_l0 E a0 (.int .i64 0) (List.replicate ((n1 : Int) : Int).toNat (.nsl 5)) else none := (h.is _ rfl).trans ((runQ_V rfl).trans (laws_toVersionSS_eq E a0))

end Go.Proofs.Ytmebdbagcbgddaa.Am
namespace Go.Proofs.Ytmebdbagcbgddaa.Am
open Go
set_option linter.unusedVariables false
set_option maxRecDepth 100000

/- loop.example/g01924/laws.toStore -/
def laws_toStore_ac : AC :=
 (.seq (.region 0 [⟨some 1, .box false 1 (.t 0), none⟩,
  ⟨some 2, .alloc 2 (.agg [(.nsl 1)]), none⟩])
 (.seq (.region 0 [⟨some 3, .alloc 3 (.agg [(.nsl 1)]), none⟩])
 (.seq (.region 0 [⟨some 4, .faddr 0 0 (.t 1), none⟩,
  ⟨some 5, .load false 1 (.t 4), none⟩,
  ⟨some 6, .call false 107 [(.t 5)], none⟩,
  ⟨some 7, .faddr 0 0 (.t 3), none⟩,
  ⟨none, .store 1 (.t 7) (.t 6), none⟩])
 (.seq (.region 0 [⟨some 8, .load true 1 (.t 3), none⟩,
  ⟨none, .store 1 (.t 2) (.t 8), none⟩])
 .ret))))

theorem laws_toStore_eq (E : Env) (a0 : U) : run E laws_toStore_ac [(2, some (true, 1))] [a0] =
 U.noTup a0 fun x1 => U.asAgg x1 fun us2 => if 0 = sizes (us2.take 0) then (us2[0]?).bind fun e3 => U.asVar false 1 e3 fun e4 => (E 107 [e4]).bind fun t5 => if storable (.val t5) = true ∧ t5.size = 1 then U.asVar true 1 (.agg [t5]) fun e6 => if storable (.val e6) = true ∧ e6.size = 1 then U.asVar true 1 e6 fun e7 => some e7 else none else none else none := by kernel_rfl

/-- In the environment E: this function and those that it calls. -/
structure G_laws_toStore (E : Env) : Prop where
  is : Is E 93 1 laws_toStore_ac [(2, some (true, 1))]
  c_laws_toVersionSS : G_laws_toVersionSS E
theorem laws_toStore_E {E : Env} (h : G_laws_toStore E) (a0 : U) : E 93 [a0] =
 U.noTup a0 fun x1 => U.asAgg x1 fun us2 => if 0 = sizes (us2.take 0) then (us2[0]?).bind fun e3 => U.asVar false 1 e3 fun e4 => (E 107 [e4]).bind fun t5 => if storable (.val t5) = true ∧ t5.size = 1 then U.asVar true 1 (.agg [t5]) fun e6 => if storable (.val e6) = true ∧ e6.size = 1 then U.asVar true 1 e6 fun e7 => some e7 else none else none else none := (h.is _ rfl).trans ((runQ_V rfl).trans (laws_toStore_eq E a0))

end Go.Proofs.Ytmebdbagcbgddaa.Am
namespace Go.Proofs.Ytmebdbagcbgddaa.Am
open Go
set_option linter.unusedVariables false
set_option maxRecDepth 100000

/- loop.example/g01924/impl.in -/
def impl_in_ac : AC :=
 (.seq (.region 0 [⟨some 6, .mv (.c (.bool false)), none⟩])
 (.seq (.region 0 [⟨some 7, .mv (.t 1), none⟩,
  ⟨some 8, .mv (.t 0), none⟩,
  ⟨some 9, .bin .leq (.t 7) (.t 8), none⟩,
  ⟨some 10, .mv (.t 9), none⟩,
  ⟨some 11, .mv (.t 0), some (10, true)⟩,
  ⟨some 12, .mv (.t 2), some (10, true)⟩,
  ⟨some 13, .bin .leq (.t 11) (.t 12), some (10, true)⟩,
  ⟨some 14, .pick (.t 10) (.t 13) (.c (.bool false)), none⟩,
  ⟨some 6, .mv (.t 14), none⟩])
 .ret))

theorem impl_in_eq (E : Env) (a0 : U) (a1 : U) (a2 : U) : run E impl_in_ac [(6, none)] [a0, a1, a2] =
 (U.bin .leq a1 a0).bind fun t1 => U.asBool t1
 ((U.bin .leq a0 a2).bind fun t2 => some t2)
 (some (.bool false)) := by kernel_rfl

/-- In the environment E: this function and those that it calls. -/
structure G_impl_in (E : Env) : Prop where
  is : Is E 10 3 impl_in_ac [(6, none)]
theorem impl_in_E {E : Env} (h : G_impl_in E) (a0 a1 a2 : U) : E 10 [a0, a1, a2] =
 (U.bin .leq a1 a0).bind fun t1 => U.asBool t1
 ((U.bin .leq a0 a2).bind fun t2 => some t2)
 (some (.bool false)) := (h.is _ rfl).trans ((runQ_V rfl).trans (impl_in_eq E a0 a1 a2))

end Go.Proofs.Ytmebdbagcbgddaa.Am
namespace Go.Proofs.Ytmebdbagcbgddaa.Am
open Go
set_option linter.unusedVariables false
set_option maxRecDepth 100000

/- loop.example/g01924/impl.isKey -/
def impl_isKey_ac : AC :=
 (.seq (.region 0 [⟨some 2, .mv (.c (.bool false)), none⟩])
 (.seq (.region 0 [⟨some 3, .mv (.t 0), none⟩,
  ⟨some 4, .call false 10 [(.t 3), (.c (.int .i64 0)), (.c (.int .i64 5))], none⟩,
  ⟨some 2, .mv (.t 4), none⟩])
 .ret))

theorem impl_isKey_eq (E : Env) (a0 : U) : run E impl_isKey_ac [(2, none)] [a0] =
 (E 10 [a0, (.int .i64 0), (.int .i64 5)]).bind fun t1 => some t1 := by kernel_rfl

/-- In the environment E: this function and those that it calls. -/
structure G_impl_isKey (E : Env) : Prop where
  is : Is E 11 1 impl_isKey_ac [(2, none)]
  c_impl_in : G_impl_in E
theorem impl_isKey_E {E : Env} (h : G_impl_isKey E) (a0 : U) : E 11 [a0] =
 (E 10 [a0, (.int .i64 0), (.int .i64 5)]).bind fun t1 => some t1 := (h.is _ rfl).trans ((runQ_V rfl).trans (impl_isKey_eq E a0))

end Go.Proofs.Ytmebdbagcbgddaa.Am
namespace Go.Proofs.Ytmebdbagcbgddaa.Am
open Go
set_option linter.unusedVariables false
set_option maxRecDepth 100000

/- slices.IndexFunc[[][]loop.example/g01924/impl.Version,[]loop.example/g01924/impl.Version] -/
def slices_IndexFunc_g115_b0 : AC :=
 (.seq (.region 0 [⟨some 9, .bin .lss (.t 8) (.t 7), none⟩])
 (.seq (.cond (.t 9) .skip (.exit 0))
 (.seq (.block 1 (.seq (.region 0 [⟨some 10, .mv (.t 8), none⟩,
  ⟨some 5, .mv (.t 10), none⟩])
 (.seq (.region 0 [⟨some 11, .mv (.t 1), none⟩,
  ⟨some 12, .mv (.t 0), none⟩,
  ⟨some 13, .mv (.t 5), none⟩,
  ⟨some 14, .iaddr 1 (.t 12) (.t 13), none⟩,
  ⟨some 15, .load false 1 (.t 14), none⟩,
  ⟨some 16, .callv false (.t 11) [(.t 15)], none⟩])
 (.cond (.t 16) (.seq (.region 0 [⟨some 17, .mv (.t 5), none⟩,
  ⟨some 4, .mv (.t 17), none⟩])
 .ret) .skip))))
 (.region 0 [⟨some 18, .bin .add (.t 8) (.c (.int .i64 1)), none⟩,
  ⟨some 8, .mv (.t 18), none⟩]))))
def slices_IndexFunc_g115_r0 : AC :=
 (.seq (.region 0 [⟨some 4, .mv (.c (.int .i64 (-1))), none⟩])
 .ret)
def slices_IndexFunc_g115_ac : AC :=
 (.seq (.region 0 [⟨some 4, .mv (.c (.int .i64 0)), none⟩])
 (.seq (.seq (.region 0 [⟨some 6, .mv (.t 0), none⟩,
  ⟨some 7, .len false (.t 6), none⟩,
  ⟨some 8, .mv (.c (.int .i64 0)), none⟩])
 (.block 0 (.loop ⟨[0, 1, 7, 8], [], []⟩ slices_IndexFunc_g115_b0)))
 slices_IndexFunc_g115_r0))
noncomputable def slices_IndexFunc_g115_l0 (E : Env) (x0 : U) (x1 : U) (x7 : U) (x8 : U) : Option U := loopK (roundOf E ⟨[0, 1, 7, 8], [], []⟩ slices_IndexFunc_g115_b0 (blockK 0 (seqK (fun s => exec E slices_IndexFunc_g115_r0 s (finish [(4, none)])) (finish [(4, none)])))) ([.val x0, .val x1, .val x7, .val x8], [])
theorem slices_IndexFunc_g115_eq (E : Env) (a0 : U) (a1 : U) : run E slices_IndexFunc_g115_ac [(4, none)] [a0, a1] =
 (U.lenOf false a0).bind fun n1 => slices_IndexFunc_g115_l0 E a0 a1 (.int .i64 (n1 : Int)) (.int .i64 0) := by kernel_rfl
theorem slices_IndexFunc_g115_l0_eq (E : Env) (x0 : U) (x1 : U) (x7 : U) (x8 : U) : slices_IndexFunc_g115_l0 E x0 x1 x7 x8 =
 (U.bin .lss x8 x7).bind fun t2 => U.asBool t2
 (U.asInt x8 fun n3 => U.elemAt 1 x0 n3 fun e4 => U.asVar false 1 e4 fun e5 => U.asFn x1 fun r6 caps7 => (E r6 ([e5] ++ caps7)).bind fun t8 => U.asBool t8
 (some x8)
 ((U.bin .add x8 (.int .i64 1)).bind fun t9 => slices_IndexFunc_g115_l0 E x0 x1 x7 t9))
 (some (.int .i64 (-1))) :=
 (loop_eq E _ _ _ _).trans (by kernel_rfl)

/-- In the environment E: this function and those that it calls. -/
structure G_slices_IndexFunc_g115 (E : Env) : Prop where
  is : Is E 115 2 slices_IndexFunc_g115_ac [(4, none)]
theorem slices_IndexFunc_g115_E {E : Env} (h : G_slices_IndexFunc_g115 E) (a0 a1 : U) : E 115 [a0, a1] =
 (U.lenOf false a0).bind fun n1 => slices_IndexFunc_g115_l0 E a0 a1 (.int .i64 (n1 : Int)) (.int .i64 0) := (h.is _ rfl).trans ((runQ_V rfl).trans (slices_IndexFunc_g115_eq E a0 a1))

end Go.Proofs.Ytmebdbagcbgddaa.Am
namespace Go.Proofs.Ytmebdbagcbgddaa.Am
open Go
set_option linter.unusedVariables false
set_option maxRecDepth 100000

/- slices.ContainsFunc[[][]loop.example/g01924/impl.Version,[]loop.example/g01924/impl.Version] -/
def slices_ContainsFunc_g114_ac : AC :=
 (.seq (.region 0 [⟨some 4, .mv (.c (.bool false)), none⟩])
 (.seq (.region 0 [⟨some 5, .mv (.t 0), none⟩,
  ⟨some 6, .mv (.t 1), none⟩,
  ⟨some 7, .call false 115 [(.t 5), (.t 6)], none⟩,
  ⟨some 8, .bin .geq (.t 7) (.c (.int .i64 0)), none⟩,
  ⟨some 4, .mv (.t 8), none⟩])
 .ret))

theorem slices_ContainsFunc_g114_eq (E : Env) (a0 : U) (a1 : U) : run E slices_ContainsFunc_g114_ac [(4, none)] [a0, a1] =
 (E 115 [a0, a1]).bind fun t1 => (U.bin .geq t1 (.int .i64 0)).bind fun t2 => some t2 := by kernel_rfl

/-- In the environment E: this function and those that it calls. -/
structure G_slices_ContainsFunc_g114 (E : Env) : Prop where
  is : Is E 114 2 slices_ContainsFunc_g114_ac [(4, none)]
  c_slices_IndexFunc_g115 : G_slices_IndexFunc_g115 E
theorem slices_ContainsFunc_g114_E {E : Env} (h : G_slices_ContainsFunc_g114 E) (a0 a1 : U) : E 114 [a0, a1] =
 (E 115 [a0, a1]).bind fun t1 => (U.bin .geq t1 (.int .i64 0)).bind fun t2 => some t2 := (h.is _ rfl).trans ((runQ_V rfl).trans (slices_ContainsFunc_g114_eq E a0 a1))

end Go.Proofs.Ytmebdbagcbgddaa.Am
namespace Go.Proofs.Ytmebdbagcbgddaa.Am
open Go
set_option linter.unusedVariables false
set_option maxRecDepth 100000

/- loop.example/g01924/impl.isID -/
def impl_isID_ac : AC :=
 (.seq (.region 0 [⟨some 2, .mv (.c (.bool false)), none⟩])
 (.seq (.region 0 [⟨some 3, .mv (.t 0), none⟩,
  ⟨some 4, .call false 10 [(.t 3), (.c (.int .i64 1)), (.c (.int .i64 9))], none⟩,
  ⟨some 2, .mv (.t 4), none⟩])
 .ret))

theorem impl_isID_eq (E : Env) (a0 : U) : run E impl_isID_ac [(2, none)] [a0] =
 (E 10 [a0, (.int .i64 1), (.int .i64 9)]).bind fun t1 => some t1 := by kernel_rfl

/-- In the environment E: this function and those that it calls. -/
structure G_impl_isID (E : Env) : Prop where
  is : Is E 9 1 impl_isID_ac [(2, none)]
  c_impl_in : G_impl_in E
theorem impl_isID_E {E : Env} (h : G_impl_isID E) (a0 : U) : E 9 [a0] =
 (E 10 [a0, (.int .i64 1), (.int .i64 9)]).bind fun t1 => some t1 := (h.is _ rfl).trans ((runQ_V rfl).trans (impl_isID_eq E a0))

end Go.Proofs.Ytmebdbagcbgddaa.Am
namespace Go.Proofs.Ytmebdbagcbgddaa.Am
open Go
set_option linter.unusedVariables false
set_option maxRecDepth 100000

/- loop.example/g01924/impl.isValue -/
def impl_isValue_ac : AC :=
 (.seq (.region 0 [⟨some 2, .mv (.c (.bool false)), none⟩])
 (.seq (.region 0 [⟨some 3, .mv (.t 0), none⟩,
  ⟨some 4, .call false 10 [(.t 3), (.c (.int .i64 (-1))), (.c (.int .i64 99))], none⟩,
  ⟨some 2, .mv (.t 4), none⟩])
 .ret))

theorem impl_isValue_eq (E : Env) (a0 : U) : run E impl_isValue_ac [(2, none)] [a0] =
 (E 10 [a0, (.int .i64 (-1)), (.int .i64 99)]).bind fun t1 => some t1 := by kernel_rfl

/-- In the environment E: this function and those that it calls. -/
structure G_impl_isValue (E : Env) : Prop where
  is : Is E 76 1 impl_isValue_ac [(2, none)]
  c_impl_in : G_impl_in E
theorem impl_isValue_E {E : Env} (h : G_impl_isValue E) (a0 : U) : E 76 [a0] =
 (E 10 [a0, (.int .i64 (-1)), (.int .i64 99)]).bind fun t1 => some t1 := (h.is _ rfl).trans ((runQ_V rfl).trans (impl_isValue_eq E a0))

end Go.Proofs.Ytmebdbagcbgddaa.Am
namespace Go.Proofs.Ytmebdbagcbgddaa.Am
open Go
set_option linter.unusedVariables false
set_option maxRecDepth 100000

/- loop.example/g01924/impl.IsValidVersion -/
def impl_IsValidVersion_ac : AC :=
 (.seq (.region 0 [⟨some 1, .box false 1 (.t 0), none⟩,
  ⟨some 2, .mv (.c (.bool false)), none⟩])
 (.seq (.seq (.region 0 [⟨some 3, .faddr 1 1 (.t 1), none⟩,
  ⟨some 4, .load false 1 (.t 3), none⟩,
  ⟨some 5, .call false 76 [(.t 4)], none⟩,
  ⟨some 6, .un .not (.t 5), none⟩,
  ⟨some 7, .mv (.t 6), none⟩,
  ⟨some 8, .faddr 2 2 (.t 1), some (7, false)⟩,
  ⟨some 9, .load false 1 (.t 8), some (7, false)⟩,
  ⟨some 10, .call false 10 [(.t 9), (.c (.int .i64 0)), (.c (.int .i64 999))], some (7, false)⟩,
  ⟨some 11, .un .not (.t 10), some (7, false)⟩,
  ⟨some 12, .pick (.t 7) (.c (.bool true)) (.t 11), none⟩,
  ⟨some 13, .mv (.t 12), none⟩,
  ⟨some 14, .faddr 3 3 (.t 1), some (13, false)⟩,
  ⟨some 15, .load false 1 (.t 14), some (13, false)⟩,
  ⟨some 16, .faddr 2 2 (.t 1), some (13, false)⟩,
  ⟨some 17, .load false 1 (.t 16), some (13, false)⟩,
  ⟨some 18, .call false 10 [(.t 15), (.t 17), (.c (.int .i64 999))], some (13, false)⟩,
  ⟨some 19, .un .not (.t 18), some (13, false)⟩,
  ⟨some 20, .pick (.t 13) (.c (.bool true)) (.t 19), none⟩,
  ⟨some 21, .mv (.t 20), none⟩,
  ⟨some 22, .faddr 4 4 (.t 1), some (21, false)⟩,
  ⟨some 23, .load false 1 (.t 22), some (21, false)⟩,
  ⟨some 24, .call false 10 [(.t 23), (.c (.int .i64 1)), (.c (.int .i64 1000))], some (21, false)⟩,
  ⟨some 25, .un .not (.t 24), some (21, false)⟩,
  ⟨some 26, .pick (.t 21) (.c (.bool true)) (.t 25), none⟩])
 (.cond (.t 26) (.seq (.region 0 [⟨some 2, .mv (.c (.bool false)), none⟩])
 .ret) .skip))
 (.seq (.seq (.region 0 [⟨some 27, .faddr 2 2 (.t 1), none⟩,
  ⟨some 28, .load false 1 (.t 27), none⟩,
  ⟨some 29, .bin .eql (.t 28) (.c (.int .i64 0)), none⟩])
 (.cond (.t 29) (.seq (.region 0 [⟨some 30, .faddr 0 0 (.t 1), none⟩,
  ⟨some 31, .load false 1 (.t 30), none⟩,
  ⟨some 32, .bin .eql (.t 31) (.c (.int .i64 0)), none⟩,
  ⟨some 33, .mv (.t 32), none⟩,
  ⟨some 34, .faddr 1 1 (.t 1), some (33, true)⟩,
  ⟨some 35, .load false 1 (.t 34), some (33, true)⟩,
  ⟨some 36, .bin .eql (.t 35) (.c (.int .i64 (-1))), some (33, true)⟩,
  ⟨some 37, .pick (.t 33) (.t 36) (.c (.bool false)), none⟩,
  ⟨some 2, .mv (.t 37), none⟩])
 .ret) .skip))
 (.seq (.region 0 [⟨some 38, .faddr 0 0 (.t 1), none⟩,
  ⟨some 39, .load false 1 (.t 38), none⟩,
  ⟨some 40, .call false 9 [(.t 39)], none⟩,
  ⟨some 2, .mv (.t 40), none⟩])
 .ret))))

theorem impl_IsValidVersion_eq (E : Env) (a0 : U) : run E impl_IsValidVersion_ac [(2, none)] [a0] =
 U.noTup a0 fun x1 => U.asAgg x1 fun us2 => if 1 = sizes (us2.take 1) then (us2[1]?).bind fun e3 => U.asVar false 1 e3 fun e4 => (E 76 [e4]).bind fun t5 => (U.un .not t5).bind fun t6 => U.asBool t6
 (some (.bool false))
 (U.asAgg x1 fun us7 => if 2 = sizes (us7.take 2) then (us7[2]?).bind fun e8 => U.asVar false 1 e8 fun e9 => (E 10 [e9, (.int .i64 0), (.int .i64 999)]).bind fun t10 => (U.un .not t10).bind fun t11 => U.asBool t11
 (some (.bool false))
 (U.asAgg x1 fun us12 => if 3 = sizes (us12.take 3) then (us12[3]?).bind fun e13 => U.asVar false 1 e13 fun e14 => U.asAgg x1 fun us15 => if 2 = sizes (us15.take 2) then (us15[2]?).bind fun e16 => U.asVar false 1 e16 fun e17 => (E 10 [e14, e17, (.int .i64 999)]).bind fun t18 => (U.un .not t18).bind fun t19 => U.asBool t19
 (some (.bool false))
 (U.asAgg x1 fun us20 => if 4 = sizes (us20.take 4) then (us20[4]?).bind fun e21 => U.asVar false 1 e21 fun e22 => (E 10 [e22, (.int .i64 1), (.int .i64 1000)]).bind fun t23 => (U.un .not t23).bind fun t24 => U.asBool t24
 (some (.bool false))
 (U.asAgg x1 fun us25 => if 2 = sizes (us25.take 2) then (us25[2]?).bind fun e26 => U.asVar false 1 e26 fun e27 => (U.bin .eql e27 (.int .i64 0)).bind fun t28 => U.asBool t28
 (U.asAgg x1 fun us29 => if 0 = sizes (us29.take 0) then (us29[0]?).bind fun e30 => U.asVar false 1 e30 fun e31 => (U.bin .eql e31 (.int .i64 0)).bind fun t32 => U.asBool t32
 (U.asAgg x1 fun us33 => if 1 = sizes (us33.take 1) then (us33[1]?).bind fun e34 => U.asVar false 1 e34 fun e35 => (U.bin .eql e35 (.int .i64 (-1))).bind fun t36 => some t36 else none)
 (some (.bool false)) else none)
 (U.asAgg x1 fun us37 => if 0 = sizes (us37.take 0) then (us37[0]?).bind fun e38 => U.asVar false 1 e38 fun e39 => (E 9 [e39]).bind fun t40 => some t40 else none) else none) else none) else none else none) else none) else none := by kernel_rfl

/-- In the environment E: this function and those that it calls. -/
structure G_impl_IsValidVersion (E : Env) : Prop where
  is : Is E 117 1 impl_IsValidVersion_ac [(2, none)]
  c_impl_in : G_impl_in E
  c_impl_isID : G_impl_isID E
  c_impl_isValue : G_impl_isValue E
theorem impl_IsValidVersion_E {E : Env} (h : G_impl_IsValidVersion E) (a0 : U) : E 117 [a0] =
 U.noTup a0 fun x1 => U.asAgg x1 fun us2 => if 1 = sizes (us2.take 1) then (us2[1]?).bind fun e3 => U.asVar false 1 e3 fun e4 => (E 76 [e4]).bind fun t5 => (U.un .not t5).bind fun t6 => U.asBool t6
 (some (.bool false))
 (U.asAgg x1 fun us7 => if 2 = sizes (us7.take 2) then (us7[2]?).bind fun e8 => U.asVar false 1 e8 fun e9 => (E 10 [e9, (.int .i64 0), (.int .i64 999)]).bind fun t10 => (U.un .not t10).bind fun t11 => U.asBool t11
 (some (.bool false))
 (U.asAgg x1 fun us12 => if 3 = sizes (us12.take 3) then (us12[3]?).bind fun e13 => U.asVar false 1 e13 fun e14 => U.asAgg x1 fun us15 => if 2 = sizes (us15.take 2) then (us15[2]?).bind fun e16 => U.asVar false 1 e16 fun e17 => (E 10 [e14, e17, (.int .i64 999)]).bind fun t18 => (U.un .not t18).bind fun t19 => U.asBool t19
 (some (.bool false))
 (U.asAgg x1 fun us20 => if 4 = sizes (us20.take 4) then (us20[4]?).bind fun e21 => U.asVar false 1 e21 fun e22 => (E 10 [e22, (.int .i64 1), (.int .i64 1000)]).bind fun t23 => (U.un .not t23).bind fun t24 => U.asBool t24
 (some (.bool false))
 (U.asAgg x1 fun us25 => if 2 = sizes (us25.take 2) then (us25[2]?).bind fun e26 => U.asVar false 1 e26 fun e27 => (U.bin .eql e27 (.int .i64 0)).bind fun t28 => U.asBool t28
 (U.asAgg x1 fun us29 => if 0 = sizes (us29.take 0) then (us29[0]?).bind fun e30 => U.asVar false 1 e30 fun e31 => (U.bin .eql e31 (.int .i64 0)).bind fun t32 => U.asBool t32
 (U.asAgg x1 fun us33 => if 1 = sizes (us33.take 1) then (us33[1]?).bind fun e34 => U.asVar false 1 e34 fun e35 => (U.bin .eql e35 (.int .i64 (-1))).bind fun t36 => some t36 else none)
 (some (.bool false)) else none)
 (U.asAgg x1 fun us37 => if 0 = sizes (us37.take 0) then (us37[0]?).bind fun e38 => U.asVar false 1 e38 fun e39 => (E 9 [e39]).bind fun t40 => some t40 else none) else none) else none) else none else none) else none) else none := (h.is _ rfl).trans ((runQ_V rfl).trans (impl_IsValidVersion_eq E a0))

end Go.Proofs.Ytmebdbagcbgddaa.Am
namespace Go.Proofs.Ytmebdbagcbgddaa.Am
open Go
set_option linter.unusedVariables false
set_option maxRecDepth 100000

/- loop.example/g01924/impl.IsValidChain -/
def impl_IsValidChain_b0 : AC :=
 (.seq (.region 0 [⟨some 8, .bin .lss (.t 7) (.t 6), none⟩])
 (.seq (.cond (.t 8) .skip (.exit 0))
 (.seq (.block 1 (.seq (.region 0 [⟨some 9, .mv (.t 7), none⟩,
  ⟨some 10, .iaddr 5 (.t 5) (.t 7), none⟩,
  ⟨some 11, .load true 5 (.t 10), none⟩,
  ⟨some 4, .alloc 4 (.agg [(.int .i64 0), (.int .i64 0), (.int .i64 0), (.int .i64 0), (.int .i64 0)]), none⟩,
  ⟨some 3, .mv (.t 9), none⟩,
  ⟨none, .store 5 (.t 4) (.t 11), none⟩])
 (.seq (.region 29 [⟨some 12, .load true 5 (.t 4), none⟩,
  ⟨some 13, .call false 117 [(.t 12)], none⟩,
  ⟨some 14, .un .not (.t 13), none⟩,
  ⟨some 15, .mv (.t 14), none⟩,
  ⟨some 16, .mv (.t 3), some (15, false)⟩,
  ⟨some 17, .bin .gtr (.t 16) (.c (.int .i64 0)), some (15, false)⟩,
  ⟨some 18, .mv (.t 17), some (15, false)⟩,
  ⟨some 19, .mv (.t 0), some (18, true)⟩,
  ⟨some 20, .mv (.t 3), some (18, true)⟩,
  ⟨some 21, .bin .sub (.t 20) (.c (.int .i64 1)), some (18, true)⟩,
  ⟨some 22, .iaddr 5 (.t 19) (.t 21), some (18, true)⟩,
  ⟨some 23, .faddr 2 2 (.t 22), some (18, true)⟩,
  ⟨some 24, .load false 1 (.t 23), some (18, true)⟩,
  ⟨some 25, .faddr 2 2 (.t 4), some (18, true)⟩,
  ⟨some 26, .load false 1 (.t 25), some (18, true)⟩,
  ⟨some 27, .bin .geq (.t 24) (.t 26), some (18, true)⟩,
  ⟨some 28, .mv (.t 27), some (18, true)⟩,
  ⟨some 29, .mv (.t 0), some (28, false)⟩,
  ⟨some 30, .mv (.t 3), some (28, false)⟩,
  ⟨some 31, .bin .sub (.t 30) (.c (.int .i64 1)), some (28, false)⟩,
  ⟨some 32, .iaddr 5 (.t 29) (.t 31), some (28, false)⟩,
  ⟨some 33, .faddr 4 4 (.t 32), some (28, false)⟩,
  ⟨some 34, .load false 1 (.t 33), some (28, false)⟩,
  ⟨some 35, .faddr 2 2 (.t 4), some (28, false)⟩,
  ⟨some 36, .load false 1 (.t 35), some (28, false)⟩,
  ⟨some 37, .bin .gtr (.t 34) (.t 36), some (28, false)⟩,
  ⟨some 38, .pick (.t 28) (.c (.bool true)) (.t 37), some (18, true)⟩,
  ⟨some 39, .pick (.t 18) (.t 38) (.c (.bool false)), some (15, false)⟩,
  ⟨some 40, .pick (.t 15) (.c (.bool true)) (.t 39), none⟩])
 (.cond (.t 40) (.seq (.region 0 [⟨some 2, .mv (.c (.bool false)), none⟩])
 .ret) .skip))))
 (.region 0 [⟨some 41, .bin .add (.t 7) (.c (.int .i64 1)), none⟩,
  ⟨some 7, .mv (.t 41), none⟩]))))
def impl_IsValidChain_r0 : AC :=
 (.seq (.region 0 [⟨some 42, .mv (.t 0), none⟩,
  ⟨some 43, .len false (.t 42), none⟩,
  ⟨some 44, .bin .gtr (.t 43) (.c (.int .i64 0)), none⟩,
  ⟨some 45, .mv (.t 44), none⟩,
  ⟨some 46, .mv (.t 0), some (45, true)⟩,
  ⟨some 47, .mv (.t 0), some (45, true)⟩,
  ⟨some 48, .len false (.t 47), some (45, true)⟩,
  ⟨some 49, .bin .sub (.t 48) (.c (.int .i64 1)), some (45, true)⟩,
  ⟨some 50, .iaddr 5 (.t 46) (.t 49), some (45, true)⟩,
  ⟨some 51, .faddr 4 4 (.t 50), some (45, true)⟩,
  ⟨some 52, .load false 1 (.t 51), some (45, true)⟩,
  ⟨some 53, .bin .eql (.t 52) (.c (.int .i64 1000)), some (45, true)⟩,
  ⟨some 54, .pick (.t 45) (.t 53) (.c (.bool false)), none⟩,
  ⟨some 2, .mv (.t 54), none⟩])
 .ret)
def impl_IsValidChain_ac : AC :=
 (.seq (.region 0 [⟨some 2, .mv (.c (.bool false)), none⟩])
 (.seq (.seq (.region 0 [⟨some 5, .mv (.t 0), none⟩,
  ⟨some 6, .len false (.t 5), none⟩,
  ⟨some 7, .mv (.c (.int .i64 0)), none⟩])
 (.block 0 (.loop ⟨[0, 5, 6, 7], [], []⟩ impl_IsValidChain_b0)))
 impl_IsValidChain_r0))
noncomputable def impl_IsValidChain_l0 (E : Env) (x0 : U) (x5 : U) (x6 : U) (x7 : U) : Option U := loopK (roundOf E ⟨[0, 5, 6, 7], [], []⟩ impl_IsValidChain_b0 (blockK 0 (seqK (fun s => exec E impl_IsValidChain_r0 s (finish [(2, none)])) (finish [(2, none)])))) ([.val x0, .val x5, .val x6, .val x7], [])
theorem impl_IsValidChain_eq (E : Env) (a0 : U) : run E impl_IsValidChain_ac [(2, none)] [a0] =
 (U.lenOf false a0).bind fun n1 => impl_IsValidChain_l0 E a0 a0 (.int .i64 (n1 : Int)) (.int .i64 0) := by kernel_rfl
theorem impl_IsValidChain_l0_eq (E : Env) (x0 : U) (x5 : U) (x6 : U) (x7 : U) : impl_IsValidChain_l0 E x0 x5 x6 x7 =
 (U.bin .lss x7 x6).bind fun t2 => U.asBool t2
 (U.asInt x7 fun n3 => U.elemAt 5 x5 n3 fun e4 => U.asVar true 5 e4 fun e5 => if storable (.val e5) = true ∧ e5.size = 5 then U.asVar true 5 e5 fun e6 => (E 117 [e6]).bind fun t7 => (U.un .not t7).bind fun t8 => U.asBool t8
 (some (.bool false))
 ((U.bin .gtr x7 (.int .i64 0)).bind fun t9 => U.asBool t9
 ((U.bin .sub x7 (.int .i64 1)).bind fun t10 => U.asInt t10 fun n11 => U.elemAt 5 x0 n11 fun e12 => U.fieldAt 2 2 e12 fun f13 => U.asVar false 1 f13 fun e14 => U.asAgg e5 fun us15 => if 2 = sizes (us15.take 2) then (us15[2]?).bind fun e16 => U.asVar false 1 e16 fun e17 => (U.bin .geq e14 e17).bind fun t18 => U.asBool t18
 (some (.bool false))
 ((U.bin .sub x7 (.int .i64 1)).bind fun t19 => U.asInt t19 fun n20 => U.elemAt 5 x0 n20 fun e21 => U.fieldAt 4 4 e21 fun f22 => U.asVar false 1 f22 fun e23 => U.asAgg e5 fun us24 => if 2 = sizes (us24.take 2) then (us24[2]?).bind fun e25 => U.asVar false 1 e25 fun e26 => (U.bin .gtr e23 e26).bind fun t27 => U.asBool t27
 (some (.bool false))
 ((U.bin .add x7 (.int .i64 1)).bind fun t28 => impl_IsValidChain_l0 E x0 x5 x6 t28) else none) else none)
 ((U.bin .add x7 (.int .i64 1)).bind fun t29 => impl_IsValidChain_l0 E x0 x5 x6 t29)) else none)
 ((U.lenOf false x0).bind fun n30 => (U.bin .gtr (.int .i64 (n30 : Int)) (.int .i64 0)).bind fun t31 => U.asBool t31
 ((U.lenOf false x0).bind fun n32 => (U.bin .sub (.int .i64 (n32 : Int)) (.int .i64 1)).bind fun t33 => U.asInt t33 fun n34 => U.elemAt 5 x0 n34 fun e35 => U.fieldAt 4 4 e35 fun f36 => U.asVar false 1 f36 fun e37 => (U.bin .eql e37 (.int .i64 1000)).bind fun t38 => some t38)
 (some (.bool false))) :=
 (loop_eq E _ _ _ _).trans (by kernel_rfl)

/-- In the environment E: this function and those that it calls. -/
structure G_impl_IsValidChain (E : Env) : Prop where
  is : Is E 116 1 impl_IsValidChain_ac [(2, none)]
  c_impl_IsValidVersion : G_impl_IsValidVersion E
theorem impl_IsValidChain_E {E : Env} (h : G_impl_IsValidChain E) (a0 : U) : E 116 [a0] =
 (U.lenOf false a0).bind fun n1 => impl_IsValidChain_l0 E a0 a0 (.int .i64 (n1 : Int)) (.int .i64 0) := (h.is _ rfl).trans ((runQ_V rfl).trans (impl_IsValidChain_eq E a0))

end Go.Proofs.Ytmebdbagcbgddaa.Am
namespace Go.Proofs.Ytmebdbagcbgddaa.Am
open Go
set_option linter.unusedVariables false
set_option maxRecDepth 100000

/- loop.example/g01924/impl.IsValidStore$1 -/
def impl_IsValidStore_1_ac : AC :=
 (.seq (.region 0 [⟨some 2, .mv (.c (.bool false)), none⟩])
 (.seq (.region 0 [⟨some 3, .mv (.t 0), none⟩,
  ⟨some 4, .call false 116 [(.t 3)], none⟩,
  ⟨some 5, .un .not (.t 4), none⟩,
  ⟨some 6, .mv (.t 5), none⟩,
  ⟨some 7, .mv (.t 0), some (6, false)⟩,
  ⟨some 8, .len false (.t 7), some (6, false)⟩,
  ⟨some 9, .bin .gtr (.t 8) (.c (.int .i64 50)), some (6, false)⟩,
  ⟨some 10, .pick (.t 6) (.c (.bool true)) (.t 9), none⟩,
  ⟨some 2, .mv (.t 10), none⟩])
 .ret))

theorem impl_IsValidStore_1_eq (E : Env) (a0 : U) : run E impl_IsValidStore_1_ac [(2, none)] [a0] =
 (E 116 [a0]).bind fun t1 => (U.un .not t1).bind fun t2 => U.asBool t2
 (some (.bool true))
 ((U.lenOf false a0).bind fun n3 => (U.bin .gtr (.int .i64 (n3 : Int)) (.int .i64 50)).bind fun t4 => some t4) := by kernel_rfl

/-- In the environment E: this function and those that it calls. -/
structure G_impl_IsValidStore_1 (E : Env) : Prop where
  is : Is E 113 1 impl_IsValidStore_1_ac [(2, none)]
  c_impl_IsValidChain : G_impl_IsValidChain E
theorem impl_IsValidStore_1_E {E : Env} (h : G_impl_IsValidStore_1 E) (a0 : U) : E 113 [a0] =
 (E 116 [a0]).bind fun t1 => (U.un .not t1).bind fun t2 => U.asBool t2
 (some (.bool true))
 ((U.lenOf false a0).bind fun n3 => (U.bin .gtr (.int .i64 (n3 : Int)) (.int .i64 50)).bind fun t4 => some t4) := (h.is _ rfl).trans ((runQ_V rfl).trans (impl_IsValidStore_1_eq E a0))

end Go.Proofs.Ytmebdbagcbgddaa.Am
namespace Go.Proofs.Ytmebdbagcbgddaa.Am
open Go
set_option linter.unusedVariables false
set_option maxRecDepth 100000

/- loop.example/g01924/impl.IsValidStore -/
def impl_IsValidStore_ac : AC :=
 (.seq (.region 0 [⟨some 1, .box false 1 (.t 0), none⟩,
  ⟨some 2, .mv (.c (.bool false)), none⟩])
 (.seq (.region 0 [⟨some 3, .faddr 0 0 (.t 1), none⟩,
  ⟨some 4, .load false 1 (.t 3), none⟩,
  ⟨some 5, .len false (.t 4), none⟩,
  ⟨some 6, .bin .eql (.t 5) (.c (.int .i64 6)), none⟩,
  ⟨some 7, .mv (.t 6), none⟩,
  ⟨some 8, .faddr 0 0 (.t 1), some (7, true)⟩,
  ⟨some 9, .load false 1 (.t 8), some (7, true)⟩,
  ⟨some 10, .call false 114 [(.t 9), (.c (.fn 113 []))], some (7, true)⟩,
  ⟨some 11, .un .not (.t 10), some (7, true)⟩,
  ⟨some 12, .pick (.t 7) (.t 11) (.c (.bool false)), none⟩,
  ⟨some 2, .mv (.t 12), none⟩])
 .ret))

theorem impl_IsValidStore_eq (E : Env) (a0 : U) : run E impl_IsValidStore_ac [(2, none)] [a0] =
 U.noTup a0 fun x1 => U.asAgg x1 fun us2 => if 0 = sizes (us2.take 0) then (us2[0]?).bind fun e3 => U.asVar false 1 e3 fun e4 => (U.lenOf false e4).bind fun n5 => (U.bin .eql (.int .i64 (n5 : Int)) (.int .i64 6)).bind fun t6 => U.asBool t6
 (U.asAgg x1 fun us7 => if 0 = sizes (us7.take 0) then (us7[0]?).bind fun e8 => U.asVar false 1 e8 fun e9 => (E 114 [e9, (.fn 113 [])]).bind fun t10 => (U.un .not t10).bind fun t11 => some t11 else none)
 (some (.bool false)) else none := by kernel_rfl

/-- In the environment E: this function and those that it calls. -/
structure G_impl_IsValidStore (E : Env) : Prop where
  is : Is E 112 1 impl_IsValidStore_ac [(2, none)]
  c_slices_ContainsFunc_g114 : G_slices_ContainsFunc_g114 E
  c_impl_IsValidStore_1 : G_impl_IsValidStore_1 E
theorem impl_IsValidStore_E {E : Env} (h : G_impl_IsValidStore E) (a0 : U) : E 112 [a0] =
 U.noTup a0 fun x1 => U.asAgg x1 fun us2 => if 0 = sizes (us2.take 0) then (us2[0]?).bind fun e3 => U.asVar false 1 e3 fun e4 => (U.lenOf false e4).bind fun n5 => (U.bin .eql (.int .i64 (n5 : Int)) (.int .i64 6)).bind fun t6 => U.asBool t6
 (U.asAgg x1 fun us7 => if 0 = sizes (us7.take 0) then (us7[0]?).bind fun e8 => U.asVar false 1 e8 fun e9 => (E 114 [e9, (.fn 113 [])]).bind fun t10 => (U.un .not t10).bind fun t11 => some t11 else none)
 (some (.bool false)) else none := (h.is _ rfl).trans ((runQ_V rfl).trans (impl_IsValidStore_eq E a0))

end Go.Proofs.Ytmebdbagcbgddaa.Am
namespace Go.Proofs.Ytmebdbagcbgddaa.Am
open Go
set_option linter.unusedVariables false
set_option maxRecDepth 100000

/- loop.example/g01924/impl.versionAt -/
def impl_versionAt_b0 : AC :=
 (.seq (.seq (.region 0 [⟨some 9, .mv (.t 5), none⟩,
  ⟨some 10, .bin .geq (.t 9) (.c (.int .i64 0)), none⟩,
  ⟨some 11, .mv (.t 10), none⟩,
  ⟨some 12, .mv (.t 0), some (11, true)⟩,
  ⟨some 13, .mv (.t 5), some (11, true)⟩,
  ⟨some 14, .iaddr 5 (.t 12) (.t 13), some (11, true)⟩,
  ⟨some 15, .faddr 2 2 (.t 14), some (11, true)⟩,
  ⟨some 16, .load false 1 (.t 15), some (11, true)⟩,
  ⟨some 17, .mv (.t 1), some (11, true)⟩,
  ⟨some 18, .bin .gtr (.t 16) (.t 17), some (11, true)⟩,
  ⟨some 19, .pick (.t 11) (.t 18) (.c (.bool false)), none⟩])
 (.cond (.t 19) .skip (.exit 0)))
 (.block 1 (.region 0 [⟨some 20, .mv (.t 5), none⟩,
  ⟨some 21, .bin .sub (.t 20) (.c (.int .i64 1)), none⟩,
  ⟨some 5, .mv (.t 21), none⟩])))
def impl_versionAt_r0 : AC :=
 (.seq (.region 0 [⟨some 22, .mv (.t 5), none⟩,
  ⟨some 4, .mv (.t 22), none⟩])
 .ret)
def impl_versionAt_ac : AC :=
 (.seq (.region 0 [⟨some 4, .mv (.c (.int .i64 0)), none⟩])
 (.seq (.region 0 [⟨some 6, .mv (.t 0), none⟩,
  ⟨some 7, .len false (.t 6), none⟩,
  ⟨some 8, .bin .sub (.t 7) (.c (.int .i64 1)), none⟩,
  ⟨some 5, .mv (.t 8), none⟩])
 (.seq (.block 0 (.loop ⟨[0, 1, 5], [], []⟩ impl_versionAt_b0))
 impl_versionAt_r0)))
noncomputable def impl_versionAt_l0 (E : Env) (x0 : U) (x1 : U) (x5 : U) : Option U := loopK (roundOf E ⟨[0, 1, 5], [], []⟩ impl_versionAt_b0 (blockK 0 (seqK (fun s => exec E impl_versionAt_r0 s (finish [(4, none)])) (finish [(4, none)])))) ([.val x0, .val x1, .val x5], [])
theorem impl_versionAt_eq (E : Env) (a0 : U) (a1 : U) : run E impl_versionAt_ac [(4, none)] [a0, a1] =
 (U.lenOf false a0).bind fun n1 => (U.bin .sub (.int .i64 (n1 : Int)) (.int .i64 1)).bind fun t2 => impl_versionAt_l0 E a0 a1 t2 := by kernel_rfl
theorem impl_versionAt_l0_eq (E : Env) (x0 : U) (x1 : U) (x5 : U) : impl_versionAt_l0 E x0 x1 x5 =
 (U.bin .geq x5 (.int .i64 0)).bind fun t3 => U.asBool t3
 (U.asInt x5 fun n4 => U.elemAt 5 x0 n4 fun e5 => U.fieldAt 2 2 e5 fun f6 => U.asVar false 1 f6 fun e7 => (U.bin .gtr e7 x1).bind fun t8 => U.asBool t8
 ((U.bin .sub x5 (.int .i64 1)).bind fun t9 => impl_versionAt_l0 E x0 x1 t9)
 (some x5))
 (some x5) :=
 (loop_eq E _ _ _ _).trans (by kernel_rfl)

/-- In the environment E: this function and those that it calls. -/
structure G_impl_versionAt (E : Env) : Prop where
  is : Is E 111 2 impl_versionAt_ac [(4, none)]
theorem impl_versionAt_E {E : Env} (h : G_impl_versionAt E) (a0 a1 : U) : E 111 [a0, a1] =
 (U.lenOf false a0).bind fun n1 => (U.bin .sub (.int .i64 (n1 : Int)) (.int .i64 1)).bind fun t2 => impl_versionAt_l0 E a0 a1 t2 := (h.is _ rfl).trans ((runQ_V rfl).trans (impl_versionAt_eq E a0 a1))

end Go.Proofs.Ytmebdbagcbgddaa.Am
namespace Go.Proofs.Ytmebdbagcbgddaa.Am
open Go
set_option linter.unusedVariables false
set_option maxRecDepth 100000

/- loop.example/g01924/impl.ReadAt -/
def impl_ReadAt_ac : AC :=
 (.seq (.region 0 [⟨some 3, .box false 3 (.t 0), none⟩,
  ⟨some 6, .alloc 6 (.agg [(.int .i64 0), (.int .i64 0), (.int .i64 0), (.int .i64 0), (.int .i64 0)]), none⟩,
  ⟨some 7, .mv (.c (.bool false)), none⟩])
 (.seq (.seq (.region 0 [⟨some 9, .load true 1 (.t 3), none⟩,
  ⟨some 10, .call false 112 [(.t 9)], none⟩,
  ⟨some 11, .un .not (.t 10), none⟩,
  ⟨some 12, .mv (.t 11), none⟩,
  ⟨some 13, .mv (.t 1), some (12, false)⟩,
  ⟨some 14, .call false 11 [(.t 13)], some (12, false)⟩,
  ⟨some 15, .un .not (.t 14), some (12, false)⟩,
  ⟨some 16, .pick (.t 12) (.c (.bool true)) (.t 15), none⟩])
 (.cond (.t 16) (.seq (.region 0 [⟨some 17, .build [(.int .i64 0), (.int .i64 0), (.int .i64 0), (.int .i64 0), (.int .i64 0)] [], none⟩,
  ⟨none, .store 5 (.t 6) (.t 17), none⟩,
  ⟨some 7, .mv (.c (.bool false)), none⟩])
 .ret) .skip))
 (.seq (.region 0 [⟨some 18, .faddr 0 0 (.t 3), none⟩,
  ⟨some 19, .load false 1 (.t 18), none⟩,
  ⟨some 20, .mv (.t 1), none⟩,
  ⟨some 21, .iaddr 1 (.t 19) (.t 20), none⟩,
  ⟨some 22, .load false 1 (.t 21), none⟩,
  ⟨some 23, .mv (.t 2), none⟩,
  ⟨some 24, .call false 111 [(.t 22), (.t 23)], none⟩,
  ⟨some 8, .mv (.t 24), none⟩])
 (.seq (.seq (.region 0 [⟨some 25, .mv (.t 8), none⟩,
  ⟨some 26, .bin .lss (.t 25) (.c (.int .i64 0)), none⟩])
 (.cond (.t 26) (.seq (.region 0 [⟨some 27, .build [(.int .i64 0), (.int .i64 0), (.int .i64 0), (.int .i64 0), (.int .i64 0)] [], none⟩,
  ⟨none, .store 5 (.t 6) (.t 27), none⟩,
  ⟨some 7, .mv (.c (.bool false)), none⟩])
 .ret) .skip))
 (.seq (.region 0 [⟨some 28, .faddr 0 0 (.t 3), none⟩,
  ⟨some 29, .load false 1 (.t 28), none⟩,
  ⟨some 30, .mv (.t 1), none⟩,
  ⟨some 31, .iaddr 1 (.t 29) (.t 30), none⟩,
  ⟨some 32, .load false 1 (.t 31), none⟩,
  ⟨some 33, .mv (.t 8), none⟩,
  ⟨some 34, .iaddr 5 (.t 32) (.t 33), none⟩,
  ⟨some 35, .load true 5 (.t 34), none⟩,
  ⟨none, .store 5 (.t 6) (.t 35), none⟩,
  ⟨some 7, .mv (.c (.bool true)), none⟩])
 .ret)))))

theorem impl_ReadAt_eq (E : Env) (a0 : U) (a1 : U) (a2 : U) : run E impl_ReadAt_ac [(6, some (true, 5)), (7, none)] [a0, a1, a2] =
 U.noTup a0 fun x1 => U.asVar true 1 x1 fun e2 => (E 112 [e2]).bind fun t3 => (U.un .not t3).bind fun t4 => U.asBool t4
 (some (.tup [(.agg [(.int .i64 0), (.int .i64 0), (.int .i64 0), (.int .i64 0), (.int .i64 0)]), (.bool false)]))
 ((E 11 [a1]).bind fun t5 => (U.un .not t5).bind fun t6 => U.asBool t6
 (some (.tup [(.agg [(.int .i64 0), (.int .i64 0), (.int .i64 0), (.int .i64 0), (.int .i64 0)]), (.bool false)]))
 (U.asAgg x1 fun us7 => if 0 = sizes (us7.take 0) then (us7[0]?).bind fun e8 => U.asVar false 1 e8 fun e9 => U.asInt a1 fun n10 => U.elemAt 1 e9 n10 fun e11 => U.asVar false 1 e11 fun e12 => (E 111 [e12, a2]).bind fun t13 => (U.bin .lss t13 (.int .i64 0)).bind fun t14 => U.asBool t14
 (some (.tup [(.agg [(.int .i64 0), (.int .i64 0), (.int .i64 0), (.int .i64 0), (.int .i64 0)]), (.bool false)]))
 (U.asAgg x1 fun us15 => if 0 = sizes (us15.take 0) then (us15[0]?).bind fun e16 => U.asVar false 1 e16 fun e17 => U.asInt a1 fun n18 => U.elemAt 1 e17 n18 fun e19 => U.asVar false 1 e19 fun e20 => U.asInt t13 fun n21 => U.elemAt 5 e20 n21 fun e22 => U.asVar true 5 e22 fun e23 => if storable (.val e23) = true ∧ e23.size = 5 then U.asVar true 5 e23 fun e24 => U.noTup e24 fun x25 => some (.tup [x25, (.bool true)]) else none else none) else none)) := by kernel_rfl

/-- In the environment E: this function and those that it calls. -/
structure G_impl_ReadAt (E : Env) : Prop where
  is : Is E 110 3 impl_ReadAt_ac [(6, some (true, 5)), (7, none)]
  c_impl_isKey : G_impl_isKey E
  c_impl_IsValidStore : G_impl_IsValidStore E
  c_impl_versionAt : G_impl_versionAt E
theorem impl_ReadAt_E {E : Env} (h : G_impl_ReadAt E) (a0 a1 a2 : U) : E 110 [a0, a1, a2] =
 U.noTup a0 fun x1 => U.asVar true 1 x1 fun e2 => (E 112 [e2]).bind fun t3 => (U.un .not t3).bind fun t4 => U.asBool t4
 (some (.tup [(.agg [(.int .i64 0), (.int .i64 0), (.int .i64 0), (.int .i64 0), (.int .i64 0)]), (.bool false)]))
 ((E 11 [a1]).bind fun t5 => (U.un .not t5).bind fun t6 => U.asBool t6
 (some (.tup [(.agg [(.int .i64 0), (.int .i64 0), (.int .i64 0), (.int .i64 0), (.int .i64 0)]), (.bool false)]))
 (U.asAgg x1 fun us7 => if 0 = sizes (us7.take 0) then (us7[0]?).bind fun e8 => U.asVar false 1 e8 fun e9 => U.asInt a1 fun n10 => U.elemAt 1 e9 n10 fun e11 => U.asVar false 1 e11 fun e12 => (E 111 [e12, a2]).bind fun t13 => (U.bin .lss t13 (.int .i64 0)).bind fun t14 => U.asBool t14
 (some (.tup [(.agg [(.int .i64 0), (.int .i64 0), (.int .i64 0), (.int .i64 0), (.int .i64 0)]), (.bool false)]))
 (U.asAgg x1 fun us15 => if 0 = sizes (us15.take 0) then (us15[0]?).bind fun e16 => U.asVar false 1 e16 fun e17 => U.asInt a1 fun n18 => U.elemAt 1 e17 n18 fun e19 => U.asVar false 1 e19 fun e20 => U.asInt t13 fun n21 => U.elemAt 5 e20 n21 fun e22 => U.asVar true 5 e22 fun e23 => if storable (.val e23) = true ∧ e23.size = 5 then U.asVar true 5 e23 fun e24 => U.noTup e24 fun x25 => some (.tup [x25, (.bool true)]) else none else none) else none)) := (h.is _ rfl).trans ((runQ_V rfl).trans (impl_ReadAt_eq E a0 a1 a2))

end Go.Proofs.Ytmebdbagcbgddaa.Am
namespace Go.Proofs.Ytmebdbagcbgddaa.Am
open Go
set_option linter.unusedVariables false
set_option maxRecDepth 100000

/- loop.example/g01924/impl.MarksAt -/
def impl_MarksAt_b0 : AC :=
 (.seq (.region 0 [⟨some 11, .bin .lss (.t 10) (.c (.int .i64 6)), none⟩])
 (.seq (.cond (.t 11) .skip (.exit 0))
 (.seq (.block 1 (.seq (.region 0 [⟨some 12, .mv (.t 10), none⟩,
  ⟨some 6, .mv (.t 12), none⟩])
 (.seq (.region 0 [⟨some 14, .load true 1 (.t 2), none⟩,
  ⟨some 15, .mv (.t 6), none⟩,
  ⟨some 16, .mv (.t 1), none⟩,
  ⟨some 17, .call false 110 [(.t 14), (.t 15), (.t 16)], none⟩,
  ⟨some 13, .mv (.t 17), none⟩,
  ⟨some 18, .extract 0 (.t 13), none⟩,
  ⟨some 19, .extract 1 (.t 13), none⟩,
  ⟨some 7, .alloc 7 (.agg [(.int .i64 0), (.int .i64 0), (.int .i64 0), (.int .i64 0), (.int .i64 0)]), none⟩,
  ⟨none, .store 5 (.t 7) (.t 18), none⟩,
  ⟨some 8, .mv (.t 19), none⟩])
 (.seq (.seq (.region 0 [⟨some 20, .mv (.t 8), none⟩,
  ⟨some 21, .un .not (.t 20), none⟩])
 (.cond (.t 21) (.seq (.region 0 [⟨some 4, .mv (.c (.nsl 2)), none⟩])
 .ret) .skip))
 (.region 0 [⟨some 22, .mv (.t 5), none⟩,
  ⟨some 23, .mv (.t 6), none⟩,
  ⟨some 24, .faddr 2 2 (.t 7), none⟩,
  ⟨some 25, .load false 1 (.t 24), none⟩,
  ⟨some 26, .build [(.int .i64 0), (.int .i64 0)] [(0, (.t 23)), (1, (.t 25))], none⟩,
  ⟨some 27, .bslice 0 27 2 1 (.agg [(.int .i64 0), (.int .i64 0)]) [(0, (.t 26))], none⟩,
  ⟨some 28, .append false 28 2 16 (.t 22) (.t 27), none⟩,
  ⟨some 5, .mv (.t 28), none⟩])))))
 (.region 0 [⟨some 29, .bin .add (.t 10) (.c (.int .i64 1)), none⟩,
  ⟨some 10, .mv (.t 29), none⟩]))))
def impl_MarksAt_r0 : AC :=
 (.seq (.region 0 [⟨some 30, .mv (.t 5), none⟩,
  ⟨some 4, .mv (.t 30), none⟩])
 .ret)
def impl_MarksAt_ac : AC :=
 (.seq (.region 0 [⟨some 2, .box false 2 (.t 0), none⟩,
  ⟨some 4, .mv (.c (.nsl 2)), none⟩])
 (.seq (.region 0 [⟨some 9, .bslice 1 9 2 0 (.agg [(.int .i64 0), (.int .i64 0)]) [], none⟩,
  ⟨some 5, .mv (.t 9), none⟩])
 (.seq (.seq (.region 0 [⟨some 10, .mv (.c (.int .i64 0)), none⟩])
 (.block 0 (.loop ⟨[1, 2, 10], [(5, 2, false)], [(2, false)]⟩ impl_MarksAt_b0)))
 impl_MarksAt_r0)))
noncomputable def impl_MarksAt_l0 (E : Env) (x1 : U) (x10 : U) (c5 : List U) (b2 : U) : Option U := loopK (roundOf E ⟨[1, 2, 10], [(5, 2, false)], [(2, false)]⟩ impl_MarksAt_b0 (blockK 0 (seqK (fun s => exec E impl_MarksAt_r0 s (finish [(4, none)])) (finish [(4, none)])))) ([.val x1, .ptr 2 [], .val x10], [.vir (.asl 2 c5), .box (.val b2)])
theorem impl_MarksAt_eq (E : Env) (a0 : U) (a1 : U) : run E impl_MarksAt_ac [(4, none)] [a0, a1] =
 U.noTup a0 fun x1 => impl_MarksAt_l0 E a1 (.int .i64 0) [] x1 := by kernel_rfl
theorem impl_MarksAt_l0_eq (E : Env) (x1 : U) (x10 : U) (c5 : List U) (b2 : U) : impl_MarksAt_l0 E x1 x10 c5 b2 =
 (U.bin .lss x10 (.int .i64 6)).bind fun t2 => U.asBool t2
 (U.asVar true 1 b2 fun e3 => (E 110 [e3, x10, x1]).bind fun t4 => U.part 0 t4 fun p5 => U.part 1 t4 fun p6 => if storable (.val p5) = true ∧ p5.size = 5 then (U.un .not p6).bind fun t7 => U.asBool t7
 (some (.nsl 2))
 (U.asAgg p5 fun us8 => if 2 = sizes (us8.take 2) then (us8[2]?).bind fun e9 => U.asVar false 1 e9 fun e10 => if partable (.val x10) = true ∧ x10.size = 1 then if partable (.val e10) = true ∧ e10.size = 1 then if partable (.val (.agg [x10, e10])) = true ∧ ((.agg [x10, e10]) : U).size = 2 then if 2 = 2 ∧ 2 = 2 ∧ ((c5).length + ([(.agg [x10, e10])] : List U).length) * 16 ≤ 140737488355328 then (U.bin .add x10 (.int .i64 1)).bind fun t11 => impl_MarksAt_l0 E x1 t11 (c5 ++ [(.agg [x10, e10])]) b2 else none else none else none else none else none) else none)
 (some (.sl 2 c5)) :=
 (loop_eq E _ _ _ _).trans (by kernel_rfl)

/-- In the environment E: this function and those that it calls. -/
structure G_impl_MarksAt (E : Env) : Prop where
  is : Is E 94 2 impl_MarksAt_ac [(4, none)]
  c_impl_ReadAt : G_impl_ReadAt E
theorem impl_MarksAt_E {E : Env} (h : G_impl_MarksAt E) (a0 a1 : U) : E 94 [a0, a1] =
 U.noTup a0 fun x1 => impl_MarksAt_l0 E a1 (.int .i64 0) [] x1 := (h.is _ rfl).trans ((runQ_V rfl).trans (impl_MarksAt_eq E a0 a1))

end Go.Proofs.Ytmebdbagcbgddaa.Am
namespace Go.Proofs.Ytmebdbagcbgddaa.Am
open Go
set_option linter.unusedVariables false
set_option maxRecDepth 100000

/- loop.example/g01924/laws.eqReadMark -/
def laws_eqReadMark_ac : AC :=
 (.seq (.region 0 [⟨some 2, .box false 2 (.t 0), none⟩,
  ⟨some 3, .box false 3 (.t 1), none⟩,
  ⟨some 4, .mv (.c (.bool false)), none⟩])
 (.seq (.seq (.region 0 [⟨some 5, .faddr 0 0 (.t 2), none⟩,
  ⟨some 6, .load false 1 (.t 5), none⟩,
  ⟨some 7, .faddr 0 0 (.t 3), none⟩,
  ⟨some 8, .load false 1 (.t 7), none⟩,
  ⟨some 9, .bin .neq (.t 6) (.t 8), none⟩])
 (.cond (.t 9) (.seq (.region 0 [⟨some 4, .mv (.c (.bool false)), none⟩])
 .ret) .skip))
 (.seq (.seq (.region 0 [⟨some 10, .faddr 1 1 (.t 2), none⟩,
  ⟨some 11, .load false 1 (.t 10), none⟩,
  ⟨some 12, .faddr 1 1 (.t 3), none⟩,
  ⟨some 13, .load false 1 (.t 12), none⟩,
  ⟨some 14, .bin .neq (.t 11) (.t 13), none⟩])
 (.cond (.t 14) (.seq (.region 0 [⟨some 4, .mv (.c (.bool false)), none⟩])
 .ret) .skip))
 (.seq (.region 0 [⟨some 4, .mv (.c (.bool true)), none⟩])
 .ret))))

theorem laws_eqReadMark_eq (E : Env) (a0 : U) (a1 : U) : run E laws_eqReadMark_ac [(4, none)] [a0, a1] =
 U.noTup a0 fun x1 => U.noTup a1 fun x2 => U.asAgg x1 fun us3 => if 0 = sizes (us3.take 0) then (us3[0]?).bind fun e4 => U.asVar false 1 e4 fun e5 => U.asAgg x2 fun us6 => if 0 = sizes (us6.take 0) then (us6[0]?).bind fun e7 => U.asVar false 1 e7 fun e8 => (U.bin .neq e5 e8).bind fun t9 => U.asBool t9
 (some (.bool false))
 (U.asAgg x1 fun us10 => if 1 = sizes (us10.take 1) then (us10[1]?).bind fun e11 => U.asVar false 1 e11 fun e12 => U.asAgg x2 fun us13 => if 1 = sizes (us13.take 1) then (us13[1]?).bind fun e14 => U.asVar false 1 e14 fun e15 => (U.bin .neq e12 e15).bind fun t16 => U.asBool t16
 (some (.bool false))
 (some (.bool true)) else none else none) else none else none := by kernel_rfl

/-- In the environment E: this function and those that it calls. -/
structure G_laws_eqReadMark (E : Env) : Prop where
  is : Is E 35 2 laws_eqReadMark_ac [(4, none)]
theorem laws_eqReadMark_E {E : Env} (h : G_laws_eqReadMark E) (a0 a1 : U) : E 35 [a0, a1] =
 U.noTup a0 fun x1 => U.noTup a1 fun x2 => U.asAgg x1 fun us3 => if 0 = sizes (us3.take 0) then (us3[0]?).bind fun e4 => U.asVar false 1 e4 fun e5 => U.asAgg x2 fun us6 => if 0 = sizes (us6.take 0) then (us6[0]?).bind fun e7 => U.asVar false 1 e7 fun e8 => (U.bin .neq e5 e8).bind fun t9 => U.asBool t9
 (some (.bool false))
 (U.asAgg x1 fun us10 => if 1 = sizes (us10.take 1) then (us10[1]?).bind fun e11 => U.asVar false 1 e11 fun e12 => U.asAgg x2 fun us13 => if 1 = sizes (us13.take 1) then (us13[1]?).bind fun e14 => U.asVar false 1 e14 fun e15 => (U.bin .neq e12 e15).bind fun t16 => U.asBool t16
 (some (.bool false))
 (some (.bool true)) else none else none) else none else none := (h.is _ rfl).trans ((runQ_V rfl).trans (laws_eqReadMark_eq E a0 a1))

end Go.Proofs.Ytmebdbagcbgddaa.Am
namespace Go.Proofs.Ytmebdbagcbgddaa.Am
open Go
set_option linter.unusedVariables false
set_option maxRecDepth 100000

/- loop.example/g01924/laws.eqReadMarkS -/
def laws_eqReadMarkS_b0 : AC :=
 (.seq (.seq (.region 0 [⟨some 11, .mv (.t 5), none⟩,
  ⟨some 12, .mv (.t 0), none⟩,
  ⟨some 13, .len false (.t 12), none⟩,
  ⟨some 14, .bin .lss (.t 11) (.t 13), none⟩])
 (.cond (.t 14) .skip (.exit 0)))
 (.seq (.block 1 (.seq (.region 10 [⟨some 17, .mv (.t 0), none⟩,
  ⟨some 18, .mv (.t 5), none⟩,
  ⟨some 19, .iaddr 2 (.t 17) (.t 18), none⟩,
  ⟨some 20, .load true 2 (.t 19), none⟩,
  ⟨some 21, .mv (.t 1), none⟩,
  ⟨some 22, .mv (.t 5), none⟩,
  ⟨some 23, .iaddr 2 (.t 21) (.t 22), none⟩,
  ⟨some 24, .load true 2 (.t 23), none⟩,
  ⟨some 25, .call false 35 [(.t 20), (.t 24)], none⟩,
  ⟨some 26, .un .not (.t 25), none⟩])
 (.cond (.t 26) (.seq (.region 0 [⟨some 4, .mv (.c (.bool false)), none⟩])
 .ret) .skip)))
 (.region 0 [⟨some 15, .mv (.t 5), none⟩,
  ⟨some 16, .bin .add (.t 15) (.c (.int .i64 1)), none⟩,
  ⟨some 5, .mv (.t 16), none⟩])))
def laws_eqReadMarkS_r0 : AC :=
 (.seq (.region 0 [⟨some 4, .mv (.c (.bool true)), none⟩])
 .ret)
def laws_eqReadMarkS_ac : AC :=
 (.seq (.region 0 [⟨some 4, .mv (.c (.bool false)), none⟩])
 (.seq (.seq (.region 0 [⟨some 6, .mv (.t 0), none⟩,
  ⟨some 7, .len false (.t 6), none⟩,
  ⟨some 8, .mv (.t 1), none⟩,
  ⟨some 9, .len false (.t 8), none⟩,
  ⟨some 10, .bin .neq (.t 7) (.t 9), none⟩])
 (.cond (.t 10) (.seq (.region 0 [⟨some 4, .mv (.c (.bool false)), none⟩])
 .ret) .skip))
 (.seq (.seq (.region 0 [⟨some 5, .mv (.c (.int .i64 0)), none⟩])
 (.block 0 (.loop ⟨[0, 1, 5], [], []⟩ laws_eqReadMarkS_b0)))
 laws_eqReadMarkS_r0)))
noncomputable def laws_eqReadMarkS_l0 (E : Env) (x0 : U) (x1 : U) (x5 : U) : Option U := loopK (roundOf E ⟨[0, 1, 5], [], []⟩ laws_eqReadMarkS_b0 (blockK 0 (seqK (fun s => exec E laws_eqReadMarkS_r0 s (finish [(4, none)])) (finish [(4, none)])))) ([.val x0, .val x1, .val x5], [])
theorem laws_eqReadMarkS_eq (E : Env) (a0 : U) (a1 : U) : run E laws_eqReadMarkS_ac [(4, none)] [a0, a1] =
 (U.lenOf false a0).bind fun n1 => (U.lenOf false a1).bind fun n2 => (U.bin .neq (.int .i64 (n1 : Int)) (.int .i64 (n2 : Int))).bind fun t3 => U.asBool t3
 (some (.bool false))
 (laws_eqReadMarkS_l0 E a0 a1 (.int .i64 0)) := by kernel_rfl
theorem laws_eqReadMarkS_l0_eq (E : Env) (x0 : U) (x1 : U) (x5 : U) : laws_eqReadMarkS_l0 E x0 x1 x5 =
 (U.lenOf false x0).bind fun n4 => (U.bin .lss x5 (.int .i64 (n4 : Int))).bind fun t5 => U.asBool t5
 (U.asInt x5 fun n6 => U.elemAt 2 x0 n6 fun e7 => U.asVar true 2 e7 fun e8 => U.asInt x5 fun n9 => U.elemAt 2 x1 n9 fun e10 => U.asVar true 2 e10 fun e11 => (E 35 [e8, e11]).bind fun t12 => (U.un .not t12).bind fun t13 => U.asBool t13
 (some (.bool false))
 ((U.bin .add x5 (.int .i64 1)).bind fun t14 => laws_eqReadMarkS_l0 E x0 x1 t14))
 (some (.bool true)) :=
 (loop_eq E _ _ _ _).trans (by kernel_rfl)

/-- In the environment E: this function and those that it calls. -/
structure G_laws_eqReadMarkS (E : Env) : Prop where
  is : Is E 34 2 laws_eqReadMarkS_ac [(4, none)]
  c_laws_eqReadMark : G_laws_eqReadMark E
theorem laws_eqReadMarkS_E {E : Env} (h : G_laws_eqReadMarkS E) (a0 a1 : U) : E 34 [a0, a1] =
 (U.lenOf false a0).bind fun n1 => (U.lenOf false a1).bind fun n2 => (U.bin .neq (.int .i64 (n1 : Int)) (.int .i64 (n2 : Int))).bind fun t3 => U.asBool t3
 (some (.bool false))
 (laws_eqReadMarkS_l0 E a0 a1 (.int .i64 0)) := (h.is _ rfl).trans ((runQ_V rfl).trans (laws_eqReadMarkS_eq E a0 a1))

end Go.Proofs.Ytmebdbagcbgddaa.Am
namespace Go.Proofs.Ytmebdbagcbgddaa.Am
open Go
set_option linter.unusedVariables false
set_option maxRecDepth 100000

/- loop.example/g01924/laws.eqVersion -/
def laws_eqVersion_ac : AC :=
 (.seq (.region 0 [⟨some 2, .box false 2 (.t 0), none⟩,
  ⟨some 3, .box false 3 (.t 1), none⟩,
  ⟨some 4, .mv (.c (.bool false)), none⟩])
 (.seq (.seq (.region 0 [⟨some 5, .faddr 0 0 (.t 2), none⟩,
  ⟨some 6, .load false 1 (.t 5), none⟩,
  ⟨some 7, .faddr 0 0 (.t 3), none⟩,
  ⟨some 8, .load false 1 (.t 7), none⟩,
  ⟨some 9, .bin .neq (.t 6) (.t 8), none⟩])
 (.cond (.t 9) (.seq (.region 0 [⟨some 4, .mv (.c (.bool false)), none⟩])
 .ret) .skip))
 (.seq (.seq (.region 0 [⟨some 10, .faddr 1 1 (.t 2), none⟩,
  ⟨some 11, .load false 1 (.t 10), none⟩,
  ⟨some 12, .faddr 1 1 (.t 3), none⟩,
  ⟨some 13, .load false 1 (.t 12), none⟩,
  ⟨some 14, .bin .neq (.t 11) (.t 13), none⟩])
 (.cond (.t 14) (.seq (.region 0 [⟨some 4, .mv (.c (.bool false)), none⟩])
 .ret) .skip))
 (.seq (.seq (.region 0 [⟨some 15, .faddr 2 2 (.t 2), none⟩,
  ⟨some 16, .load false 1 (.t 15), none⟩,
  ⟨some 17, .faddr 2 2 (.t 3), none⟩,
  ⟨some 18, .load false 1 (.t 17), none⟩,
  ⟨some 19, .bin .neq (.t 16) (.t 18), none⟩])
 (.cond (.t 19) (.seq (.region 0 [⟨some 4, .mv (.c (.bool false)), none⟩])
 .ret) .skip))
 (.seq (.seq (.region 0 [⟨some 20, .faddr 3 3 (.t 2), none⟩,
  ⟨some 21, .load false 1 (.t 20), none⟩,
  ⟨some 22, .faddr 3 3 (.t 3), none⟩,
  ⟨some 23, .load false 1 (.t 22), none⟩,
  ⟨some 24, .bin .neq (.t 21) (.t 23), none⟩])
 (.cond (.t 24) (.seq (.region 0 [⟨some 4, .mv (.c (.bool false)), none⟩])
 .ret) .skip))
 (.seq (.seq (.region 0 [⟨some 25, .faddr 4 4 (.t 2), none⟩,
  ⟨some 26, .load false 1 (.t 25), none⟩,
  ⟨some 27, .faddr 4 4 (.t 3), none⟩,
  ⟨some 28, .load false 1 (.t 27), none⟩,
  ⟨some 29, .bin .neq (.t 26) (.t 28), none⟩])
 (.cond (.t 29) (.seq (.region 0 [⟨some 4, .mv (.c (.bool false)), none⟩])
 .ret) .skip))
 (.seq (.region 0 [⟨some 4, .mv (.c (.bool true)), none⟩])
 .ret)))))))

theorem laws_eqVersion_eq (E : Env) (a0 : U) (a1 : U) : run E laws_eqVersion_ac [(4, none)] [a0, a1] =
 U.noTup a0 fun x1 => U.noTup a1 fun x2 => U.asAgg x1 fun us3 => if 0 = sizes (us3.take 0) then (us3[0]?).bind fun e4 => U.asVar false 1 e4 fun e5 => U.asAgg x2 fun us6 => if 0 = sizes (us6.take 0) then (us6[0]?).bind fun e7 => U.asVar false 1 e7 fun e8 => (U.bin .neq e5 e8).bind fun t9 => U.asBool t9
 (some (.bool false))
 (U.asAgg x1 fun us10 => if 1 = sizes (us10.take 1) then (us10[1]?).bind fun e11 => U.asVar false 1 e11 fun e12 => U.asAgg x2 fun us13 => if 1 = sizes (us13.take 1) then (us13[1]?).bind fun e14 => U.asVar false 1 e14 fun e15 => (U.bin .neq e12 e15).bind fun t16 => U.asBool t16
 (some (.bool false))
 (U.asAgg x1 fun us17 => if 2 = sizes (us17.take 2) then (us17[2]?).bind fun e18 => U.asVar false 1 e18 fun e19 => U.asAgg x2 fun us20 => if 2 = sizes (us20.take 2) then (us20[2]?).bind fun e21 => U.asVar false 1 e21 fun e22 => (U.bin .neq e19 e22).bind fun t23 => U.asBool t23
 (some (.bool false))
 (U.asAgg x1 fun us24 => if 3 = sizes (us24.take 3) then (us24[3]?).bind fun e25 => U.asVar false 1 e25 fun e26 => U.asAgg x2 fun us27 => if 3 = sizes (us27.take 3) then (us27[3]?).bind fun e28 => U.asVar false 1 e28 fun e29 => (U.bin .neq e26 e29).bind fun t30 => U.asBool t30
 (some (.bool false))
 (U.asAgg x1 fun us31 => if 4 = sizes (us31.take 4) then (us31[4]?).bind fun e32 => U.asVar false 1 e32 fun e33 => U.asAgg x2 fun us34 => if 4 = sizes (us34.take 4) then (us34[4]?).bind fun e35 => U.asVar false 1 e35 fun e36 => (U.bin .neq e33 e36).bind fun t37 => U.asBool t37
 (some (.bool false))
 (some (.bool true)) else none else none) else none else none) else none else none) else none else none) else none else none := by kernel_rfl

/-- In the environment E: this function and those that it calls. -/
structure G_laws_eqVersion (E : Env) : Prop where
  is : Is E 120 2 laws_eqVersion_ac [(4, none)]
theorem laws_eqVersion_E {E : Env} (h : G_laws_eqVersion E) (a0 a1 : U) : E 120 [a0, a1] =
 U.noTup a0 fun x1 => U.noTup a1 fun x2 => U.asAgg x1 fun us3 => if 0 = sizes (us3.take 0) then (us3[0]?).bind fun e4 => U.asVar false 1 e4 fun e5 => U.asAgg x2 fun us6 => if 0 = sizes (us6.take 0) then (us6[0]?).bind fun e7 => U.asVar false 1 e7 fun e8 => (U.bin .neq e5 e8).bind fun t9 => U.asBool t9
 (some (.bool false))
 (U.asAgg x1 fun us10 => if 1 = sizes (us10.take 1) then (us10[1]?).bind fun e11 => U.asVar false 1 e11 fun e12 => U.asAgg x2 fun us13 => if 1 = sizes (us13.take 1) then (us13[1]?).bind fun e14 => U.asVar false 1 e14 fun e15 => (U.bin .neq e12 e15).bind fun t16 => U.asBool t16
 (some (.bool false))
 (U.asAgg x1 fun us17 => if 2 = sizes (us17.take 2) then (us17[2]?).bind fun e18 => U.asVar false 1 e18 fun e19 => U.asAgg x2 fun us20 => if 2 = sizes (us20.take 2) then (us20[2]?).bind fun e21 => U.asVar false 1 e21 fun e22 => (U.bin .neq e19 e22).bind fun t23 => U.asBool t23
 (some (.bool false))
 (U.asAgg x1 fun us24 => if 3 = sizes (us24.take 3) then (us24[3]?).bind fun e25 => U.asVar false 1 e25 fun e26 => U.asAgg x2 fun us27 => if 3 = sizes (us27.take 3) then (us27[3]?).bind fun e28 => U.asVar false 1 e28 fun e29 => (U.bin .neq e26 e29).bind fun t30 => U.asBool t30
 (some (.bool false))
 (U.asAgg x1 fun us31 => if 4 = sizes (us31.take 4) then (us31[4]?).bind fun e32 => U.asVar false 1 e32 fun e33 => U.asAgg x2 fun us34 => if 4 = sizes (us34.take 4) then (us34[4]?).bind fun e35 => U.asVar false 1 e35 fun e36 => (U.bin .neq e33 e36).bind fun t37 => U.asBool t37
 (some (.bool false))
 (some (.bool true)) else none else none) else none else none) else none else none) else none else none) else none else none := (h.is _ rfl).trans ((runQ_V rfl).trans (laws_eqVersion_eq E a0 a1))

end Go.Proofs.Ytmebdbagcbgddaa.Am
namespace Go.Proofs.Ytmebdbagcbgddaa.Am
open Go
set_option linter.unusedVariables false
set_option maxRecDepth 100000

/- loop.example/g01924/laws.eqVersionS -/
def laws_eqVersionS_b0 : AC :=
 (.seq (.seq (.region 0 [⟨some 11, .mv (.t 5), none⟩,
  ⟨some 12, .mv (.t 0), none⟩,
  ⟨some 13, .len false (.t 12), none⟩,
  ⟨some 14, .bin .lss (.t 11) (.t 13), none⟩])
 (.cond (.t 14) .skip (.exit 0)))
 (.seq (.block 1 (.seq (.region 10 [⟨some 17, .mv (.t 0), none⟩,
  ⟨some 18, .mv (.t 5), none⟩,
  ⟨some 19, .iaddr 5 (.t 17) (.t 18), none⟩,
  ⟨some 20, .load true 5 (.t 19), none⟩,
  ⟨some 21, .mv (.t 1), none⟩,
  ⟨some 22, .mv (.t 5), none⟩,
  ⟨some 23, .iaddr 5 (.t 21) (.t 22), none⟩,
  ⟨some 24, .load true 5 (.t 23), none⟩,
  ⟨some 25, .call false 120 [(.t 20), (.t 24)], none⟩,
  ⟨some 26, .un .not (.t 25), none⟩])
 (.cond (.t 26) (.seq (.region 0 [⟨some 4, .mv (.c (.bool false)), none⟩])
 .ret) .skip)))
 (.region 0 [⟨some 15, .mv (.t 5), none⟩,
  ⟨some 16, .bin .add (.t 15) (.c (.int .i64 1)), none⟩,
  ⟨some 5, .mv (.t 16), none⟩])))
def laws_eqVersionS_r0 : AC :=
 (.seq (.region 0 [⟨some 4, .mv (.c (.bool true)), none⟩])
 .ret)
def laws_eqVersionS_ac : AC :=
 (.seq (.region 0 [⟨some 4, .mv (.c (.bool false)), none⟩])
 (.seq (.seq (.region 0 [⟨some 6, .mv (.t 0), none⟩,
  ⟨some 7, .len false (.t 6), none⟩,
  ⟨some 8, .mv (.t 1), none⟩,
  ⟨some 9, .len false (.t 8), none⟩,
  ⟨some 10, .bin .neq (.t 7) (.t 9), none⟩])
 (.cond (.t 10) (.seq (.region 0 [⟨some 4, .mv (.c (.bool false)), none⟩])
 .ret) .skip))
 (.seq (.seq (.region 0 [⟨some 5, .mv (.c (.int .i64 0)), none⟩])
 (.block 0 (.loop ⟨[0, 1, 5], [], []⟩ laws_eqVersionS_b0)))
 laws_eqVersionS_r0)))
noncomputable def laws_eqVersionS_l0 (E : Env) (x0 : U) (x1 : U) (x5 : U) : Option U := loopK (roundOf E ⟨[0, 1, 5], [], []⟩ laws_eqVersionS_b0 (blockK 0 (seqK (fun s => exec E laws_eqVersionS_r0 s (finish [(4, none)])) (finish [(4, none)])))) ([.val x0, .val x1, .val x5], [])
theorem laws_eqVersionS_eq (E : Env) (a0 : U) (a1 : U) : run E laws_eqVersionS_ac [(4, none)] [a0, a1] =
 (U.lenOf false a0).bind fun n1 => (U.lenOf false a1).bind fun n2 => (U.bin .neq (.int .i64 (n1 : Int)) (.int .i64 (n2 : Int))).bind fun t3 => U.asBool t3
 (some (.bool false))
 (laws_eqVersionS_l0 E a0 a1 (.int .i64 0)) := by kernel_rfl
theorem laws_eqVersionS_l0_eq (E : Env) (x0 : U) (x1 : U) (x5 : U) : laws_eqVersionS_l0 E x0 x1 x5 =
 (U.lenOf false x0).bind fun n4 => (U.bin .lss x5 (.int .i64 (n4 : Int))).bind fun t5 => U.asBool t5
 (U.asInt x5 fun n6 => U.elemAt 5 x0 n6 fun e7 => U.asVar true 5 e7 fun e8 => U.asInt x5 fun n9 => U.elemAt 5 x1 n9 fun e10 => U.asVar true 5 e10 fun e11 => (E 120 [e8, e11]).bind fun t12 => (U.un .not t12).bind fun t13 => U.asBool t13
 (some (.bool false))
 ((U.bin .add x5 (.int .i64 1)).bind fun t14 => laws_eqVersionS_l0 E x0 x1 t14))
 (some (.bool true)) :=
 (loop_eq E _ _ _ _).trans (by kernel_rfl)

/-- In the environment E: this function and those that it calls. -/
structure G_laws_eqVersionS (E : Env) : Prop where
  is : Is E 119 2 laws_eqVersionS_ac [(4, none)]
  c_laws_eqVersion : G_laws_eqVersion E
theorem laws_eqVersionS_E {E : Env} (h : G_laws_eqVersionS E) (a0 a1 : U) : E 119 [a0, a1] =
 (U.lenOf false a0).bind fun n1 => (U.lenOf false a1).bind fun n2 => (U.bin .neq (.int .i64 (n1 : Int)) (.int .i64 (n2 : Int))).bind fun t3 => U.asBool t3
 (some (.bool false))
 (laws_eqVersionS_l0 E a0 a1 (.int .i64 0)) := (h.is _ rfl).trans ((runQ_V rfl).trans (laws_eqVersionS_eq E a0 a1))

end Go.Proofs.Ytmebdbagcbgddaa.Am
namespace Go.Proofs.Ytmebdbagcbgddaa.Am
open Go
set_option linter.unusedVariables false
set_option maxRecDepth 100000

/- loop.example/g01924/laws.eqVersionSS -/
def laws_eqVersionSS_b0 : AC :=
 (.seq (.seq (.region 0 [⟨some 11, .mv (.t 5), none⟩,
  ⟨some 12, .mv (.t 0), none⟩,
  ⟨some 13, .len false (.t 12), none⟩,
  ⟨some 14, .bin .lss (.t 11) (.t 13), none⟩])
 (.cond (.t 14) .skip (.exit 0)))
 (.seq (.block 1 (.seq (.region 10 [⟨some 17, .mv (.t 0), none⟩,
  ⟨some 18, .mv (.t 5), none⟩,
  ⟨some 19, .iaddr 1 (.t 17) (.t 18), none⟩,
  ⟨some 20, .load false 1 (.t 19), none⟩,
  ⟨some 21, .mv (.t 1), none⟩,
  ⟨some 22, .mv (.t 5), none⟩,
  ⟨some 23, .iaddr 1 (.t 21) (.t 22), none⟩,
  ⟨some 24, .load false 1 (.t 23), none⟩,
  ⟨some 25, .call false 119 [(.t 20), (.t 24)], none⟩,
  ⟨some 26, .un .not (.t 25), none⟩])
 (.cond (.t 26) (.seq (.region 0 [⟨some 4, .mv (.c (.bool false)), none⟩])
 .ret) .skip)))
 (.region 0 [⟨some 15, .mv (.t 5), none⟩,
  ⟨some 16, .bin .add (.t 15) (.c (.int .i64 1)), none⟩,
  ⟨some 5, .mv (.t 16), none⟩])))
def laws_eqVersionSS_r0 : AC :=
 (.seq (.region 0 [⟨some 4, .mv (.c (.bool true)), none⟩])
 .ret)
def laws_eqVersionSS_ac : AC :=
 (.seq (.region 0 [⟨some 4, .mv (.c (.bool false)), none⟩])
 (.seq (.seq (.region 0 [⟨some 6, .mv (.t 0), none⟩,
  ⟨some 7, .len false (.t 6), none⟩,
  ⟨some 8, .mv (.t 1), none⟩,
  ⟨some 9, .len false (.t 8), none⟩,
  ⟨some 10, .bin .neq (.t 7) (.t 9), none⟩])
 (.cond (.t 10) (.seq (.region 0 [⟨some 4, .mv (.c (.bool false)), none⟩])
 .ret) .skip))
 (.seq (.seq (.region 0 [⟨some 5, .mv (.c (.int .i64 0)), none⟩])
 (.block 0 (.loop ⟨[0, 1, 5], [], []⟩ laws_eqVersionSS_b0)))
 laws_eqVersionSS_r0)))
noncomputable def laws_eqVersionSS_l0 (E : Env) (x0 : U) (x1 : U) (x5 : U) : Option U := loopK (roundOf E ⟨[0, 1, 5], [], []⟩ laws_eqVersionSS_b0 (blockK 0 (seqK (fun s => exec E laws_eqVersionSS_r0 s (finish [(4, none)])) (finish [(4, none)])))) ([.val x0, .val x1, .val x5], [])
theorem laws_eqVersionSS_eq (E : Env) (a0 : U) (a1 : U) : run E laws_eqVersionSS_ac [(4, none)] [a0, a1] =
 (U.lenOf false a0).bind fun n1 => (U.lenOf false a1).bind fun n2 => (U.bin .neq (.int .i64 (n1 : Int)) (.int .i64 (n2 : Int))).bind fun t3 => U.asBool t3
 (some (.bool false))
 (laws_eqVersionSS_l0 E a0 a1 (.int .i64 0)) := by kernel_rfl
theorem laws_eqVersionSS_l0_eq (E : Env) (x0 : U) (x1 : U) (x5 : U) : laws_eqVersionSS_l0 E x0 x1 x5 =
 (U.lenOf false x0).bind fun n4 => (U.bin .lss x5 (.int .i64 (n4 : Int))).bind fun t5 => U.asBool t5
 (U.asInt x5 fun n6 => U.elemAt 1 x0 n6 fun e7 => U.asVar false 1 e7 fun e8 => U.asInt x5 fun n9 => U.elemAt 1 x1 n9 fun e10 => U.asVar false 1 e10 fun e11 => (E 119 [e8, e11]).bind fun t12 => (U.un .not t12).bind fun t13 => U.asBool t13
 (some (.bool false))
 ((U.bin .add x5 (.int .i64 1)).bind fun t14 => laws_eqVersionSS_l0 E x0 x1 t14))
 (some (.bool true)) :=
 (loop_eq E _ _ _ _).trans (by kernel_rfl)

/-- In the environment E: this function and those that it calls. -/
structure G_laws_eqVersionSS (E : Env) : Prop where
  is : Is E 118 2 laws_eqVersionSS_ac [(4, none)]
  c_laws_eqVersionS : G_laws_eqVersionS E
theorem laws_eqVersionSS_E {E : Env} (h : G_laws_eqVersionSS E) (a0 a1 : U) : E 118 [a0, a1] =
 (U.lenOf false a0).bind fun n1 => (U.lenOf false a1).bind fun n2 => (U.bin .neq (.int .i64 (n1 : Int)) (.int .i64 (n2 : Int))).bind fun t3 => U.asBool t3
 (some (.bool false))
 (laws_eqVersionSS_l0 E a0 a1 (.int .i64 0)) := (h.is _ rfl).trans ((runQ_V rfl).trans (laws_eqVersionSS_eq E a0 a1))

end Go.Proofs.Ytmebdbagcbgddaa.Am
namespace Go.Proofs.Ytmebdbagcbgddaa.Am
open Go
set_option linter.unusedVariables false
set_option maxRecDepth 100000

/- loop.example/g01924/laws.eqStore -/
def laws_eqStore_ac : AC :=
 (.seq (.region 0 [⟨some 2, .box false 2 (.t 0), none⟩,
  ⟨some 3, .box false 3 (.t 1), none⟩,
  ⟨some 4, .mv (.c (.bool false)), none⟩])
 (.seq (.seq (.region 0 [⟨some 5, .faddr 0 0 (.t 2), none⟩,
  ⟨some 6, .load false 1 (.t 5), none⟩,
  ⟨some 7, .faddr 0 0 (.t 3), none⟩,
  ⟨some 8, .load false 1 (.t 7), none⟩,
  ⟨some 9, .call false 118 [(.t 6), (.t 8)], none⟩,
  ⟨some 10, .un .not (.t 9), none⟩])
 (.cond (.t 10) (.seq (.region 0 [⟨some 4, .mv (.c (.bool false)), none⟩])
 .ret) .skip))
 (.seq (.region 0 [⟨some 4, .mv (.c (.bool true)), none⟩])
 .ret)))

theorem laws_eqStore_eq (E : Env) (a0 : U) (a1 : U) : run E laws_eqStore_ac [(4, none)] [a0, a1] =
 U.noTup a0 fun x1 => U.noTup a1 fun x2 => U.asAgg x1 fun us3 => if 0 = sizes (us3.take 0) then (us3[0]?).bind fun e4 => U.asVar false 1 e4 fun e5 => U.asAgg x2 fun us6 => if 0 = sizes (us6.take 0) then (us6[0]?).bind fun e7 => U.asVar false 1 e7 fun e8 => (E 118 [e5, e8]).bind fun t9 => (U.un .not t9).bind fun t10 => U.asBool t10
 (some (.bool false))
 (some (.bool true)) else none else none := by kernel_rfl

/-- In the environment E: this function and those that it calls. -/
structure G_laws_eqStore (E : Env) : Prop where
  is : Is E 97 2 laws_eqStore_ac [(4, none)]
  c_laws_eqVersionSS : G_laws_eqVersionSS E
theorem laws_eqStore_E {E : Env} (h : G_laws_eqStore E) (a0 a1 : U) : E 97 [a0, a1] =
 U.noTup a0 fun x1 => U.noTup a1 fun x2 => U.asAgg x1 fun us3 => if 0 = sizes (us3.take 0) then (us3[0]?).bind fun e4 => U.asVar false 1 e4 fun e5 => U.asAgg x2 fun us6 => if 0 = sizes (us6.take 0) then (us6[0]?).bind fun e7 => U.asVar false 1 e7 fun e8 => (E 118 [e5, e8]).bind fun t9 => (U.un .not t9).bind fun t10 => U.asBool t10
 (some (.bool false))
 (some (.bool true)) else none else none := (h.is _ rfl).trans ((runQ_V rfl).trans (laws_eqStore_eq E a0 a1))

end Go.Proofs.Ytmebdbagcbgddaa.Am
namespace Go.Proofs.Ytmebdbagcbgddaa.Am
open Go
set_option linter.unusedVariables false
set_option maxRecDepth 100000

/- loop.example/g01924/laws.heldReadMarkS -/
def laws_heldReadMarkS_b0 : AC :=
 (.seq (.seq (.region 0 [⟨some 6, .mv (.t 5), none⟩,
  ⟨some 7, .mv (.t 0), none⟩,
  ⟨some 8, .len false (.t 7), none⟩,
  ⟨some 9, .bin .lss (.t 6) (.t 8), none⟩])
 (.cond (.t 9) .skip (.exit 0)))
 (.seq (.block 1 (.seq (.seq (.region 0 [⟨some 12, .mv (.t 0), none⟩,
  ⟨some 13, .mv (.t 5), none⟩,
  ⟨some 14, .iaddr 2 (.t 12) (.t 13), none⟩,
  ⟨some 15, .faddr 0 0 (.t 14), none⟩,
  ⟨some 16, .load false 1 (.t 15), none⟩,
  ⟨some 17, .mv (.t 1), none⟩,
  ⟨some 18, .bin .neq (.t 16) (.t 17), none⟩])
 (.cond (.t 18) (.seq (.region 0 [⟨some 4, .mv (.c (.int .i64 (-1))), none⟩])
 .ret) .skip))
 (.seq (.region 0 [⟨some 19, .mv (.t 1), none⟩,
  ⟨some 20, .bin .add (.t 19) (.c (.int .i64 1)), none⟩,
  ⟨some 1, .mv (.t 20), none⟩])
 (.seq (.seq (.region 0 [⟨some 21, .mv (.t 0), none⟩,
  ⟨some 22, .mv (.t 5), none⟩,
  ⟨some 23, .iaddr 2 (.t 21) (.t 22), none⟩,
  ⟨some 24, .faddr 1 1 (.t 23), none⟩,
  ⟨some 25, .load false 1 (.t 24), none⟩,
  ⟨some 26, .mv (.t 1), none⟩,
  ⟨some 27, .bin .neq (.t 25) (.t 26), none⟩])
 (.cond (.t 27) (.seq (.region 0 [⟨some 4, .mv (.c (.int .i64 (-1))), none⟩])
 .ret) .skip))
 (.region 0 [⟨some 28, .mv (.t 1), none⟩,
  ⟨some 29, .bin .add (.t 28) (.c (.int .i64 1)), none⟩,
  ⟨some 1, .mv (.t 29), none⟩])))))
 (.region 0 [⟨some 10, .mv (.t 5), none⟩,
  ⟨some 11, .bin .add (.t 10) (.c (.int .i64 1)), none⟩,
  ⟨some 5, .mv (.t 11), none⟩])))
def laws_heldReadMarkS_r0 : AC :=
 (.seq (.region 0 [⟨some 30, .mv (.t 1), none⟩,
  ⟨some 4, .mv (.t 30), none⟩])
 .ret)
def laws_heldReadMarkS_ac : AC :=
 (.seq (.region 0 [⟨some 4, .mv (.c (.int .i64 0)), none⟩])
 (.seq (.seq (.region 0 [⟨some 5, .mv (.c (.int .i64 0)), none⟩])
 (.block 0 (.loop ⟨[0, 1, 5], [], []⟩ laws_heldReadMarkS_b0)))
 laws_heldReadMarkS_r0))
noncomputable def laws_heldReadMarkS_l0 (E : Env) (x0 : U) (x1 : U) (x5 : U) : Option U := loopK (roundOf E ⟨[0, 1, 5], [], []⟩ laws_heldReadMarkS_b0 (blockK 0 (seqK (fun s => exec E laws_heldReadMarkS_r0 s (finish [(4, none)])) (finish [(4, none)])))) ([.val x0, .val x1, .val x5], [])
theorem laws_heldReadMarkS_eq (E : Env) (a0 : U) (a1 : U) : run E laws_heldReadMarkS_ac [(4, none)] [a0, a1] =
 laws_heldReadMarkS_l0 E a0 a1 (.int .i64 0) := by kernel_rfl
theorem laws_heldReadMarkS_l0_eq (E : Env) (x0 : U) (x1 : U) (x5 : U) : laws_heldReadMarkS_l0 E x0 x1 x5 =
 (U.lenOf false x0).bind fun n1 => (U.bin .lss x5 (.int .i64 (n1 : Int))).bind fun t2 => U.asBool t2
 (U.asInt x5 fun n3 => U.elemAt 2 x0 n3 fun e4 => U.fieldAt 0 0 e4 fun f5 => U.asVar false 1 f5 fun e6 => (U.bin .neq e6 x1).bind fun t7 => U.asBool t7
 (some (.int .i64 (-1)))
 ((U.bin .add x1 (.int .i64 1)).bind fun t8 => U.asInt x5 fun n9 => U.elemAt 2 x0 n9 fun e10 => U.fieldAt 1 1 e10 fun f11 => U.asVar false 1 f11 fun e12 => (U.bin .neq e12 t8).bind fun t13 => U.asBool t13
 (some (.int .i64 (-1)))
 ((U.bin .add t8 (.int .i64 1)).bind fun t14 => (U.bin .add x5 (.int .i64 1)).bind fun t15 => laws_heldReadMarkS_l0 E x0 t14 t15)))
 (some x1) :=
 (loop_eq E _ _ _ _).trans (by kernel_rfl)

/-- In the environment E: this function and those that it calls. -/
structure G_laws_heldReadMarkS (E : Env) : Prop where
  is : Is E 92 2 laws_heldReadMarkS_ac [(4, none)]
theorem laws_heldReadMarkS_E {E : Env} (h : G_laws_heldReadMarkS E) (a0 a1 : U) : E 92 [a0, a1] =
 laws_heldReadMarkS_l0 E a0 a1 (.int .i64 0) := (h.is _ rfl).trans ((runQ_V rfl).trans (laws_heldReadMarkS_eq E a0 a1))

end Go.Proofs.Ytmebdbagcbgddaa.Am
namespace Go.Proofs.Ytmebdbagcbgddaa.Am
open Go
set_option linter.unusedVariables false
set_option maxRecDepth 100000

/- loop.example/g01924/laws.toVersionS!F -/
def laws_toVersionS_F_b0 : AC :=
 (.seq (.seq (.region 0 [⟨some 8, .mv (.t 4), none⟩,
  ⟨some 9, .mv (.t 0), none⟩,
  ⟨some 10, .len false (.t 9), none⟩,
  ⟨some 11, .bin .lss (.t 8) (.t 10), none⟩])
 (.cond (.t 11) .skip (.exit 0)))
 (.seq (.block 1 (.region 0 [⟨some 14, .mv (.t 3), none⟩,
  ⟨some 15, .mv (.t 4), none⟩,
  ⟨some 16, .mv (.t 0), none⟩,
  ⟨some 17, .mv (.t 4), none⟩,
  ⟨some 18, .iaddr 5 (.t 16) (.t 17), none⟩,
  ⟨some 19, .load true 5 (.t 18), none⟩,
  ⟨some 20, .call false 109 [(.t 19)], none⟩,
  ⟨some 21, .iaddr 5 (.t 14) (.t 15), none⟩,
  ⟨none, .store 5 (.t 21) (.t 20), none⟩]))
 (.region 0 [⟨some 12, .mv (.t 4), none⟩,
  ⟨some 13, .bin .add (.t 12) (.c (.int .i64 1)), none⟩,
  ⟨some 4, .mv (.t 13), none⟩])))
def laws_toVersionS_F_r0 : AC :=
 (.seq (.region 0 [⟨some 22, .mv (.t 3), none⟩,
  ⟨some 2, .mv (.t 22), none⟩])
 .ret)
def laws_toVersionS_F_ac : AC :=
 (.seq (.region 0 [⟨some 2, .mv (.c (.nsl 5)), none⟩])
 (.seq (.region 0 [⟨some 5, .mv (.t 0), none⟩,
  ⟨some 6, .len false (.t 5), none⟩,
  ⟨some 7, .mkslice 7 5 40 (.agg [(.int .i64 0), (.int .i64 0), (.int .i64 0), (.int .i64 0), (.int .i64 0)]) (.t 6) (.t 6), none⟩,
  ⟨some 3, .mv (.t 7), none⟩])
 (.seq (.seq (.region 0 [⟨some 4, .mv (.c (.int .i64 0)), none⟩])
 (.block 0 (.loop ⟨[0, 4], [(3, 5, false)], []⟩ laws_toVersionS_F_b0)))
 laws_toVersionS_F_r0)))
noncomputable def laws_toVersionS_F_l0 (E : Env) (x0 : U) (x4 : U) (c3 : List U) : Option U := loopK (roundOf E ⟨[0, 4], [(3, 5, false)], []⟩ laws_toVersionS_F_b0 (blockK 0 (seqK (fun s => exec E laws_toVersionS_F_r0 s (finishF [(2, none)])) (finishF [(2, none)])))) ([.val x0, .val x4], [.vir (.asl 5 c3)])
theorem laws_toVersionS_F_eq (E : Env) (a0 : U) : exec E laws_toVersionS_F_ac (start [a0]) (finishF [(2, none)]) =
 (U.lenOf false a0).bind fun n1 => if 0 ≤ (n1 : Int) ∧ (n1 : Int) ≤ (n1 : Int) ∧ (n1 : Int) * 40 ≤ 140737488355328 ∧ ((.agg [(.int .i64 0), (.int .i64 0), (.int .i64 0), (.int .i64 0), (.int .i64 0)]) : U).size = 5 then laws_toVersionS_F_l0 E a0 (.int .i64 0) (List.replicate ((n1 : Int) : Int).toNat (.agg [(.int .i64 0), (.int .i64 0), (.int .i64 0), (.int .i64 0), (.int .i64 0)])) else none := by kernel_rfl
theorem laws_toVersionS_F_l0_eq (E : Env) (x0 : U) (x4 : U) (c3 : List U) : laws_toVersionS_F_l0 E x0 x4 c3 =
 (U.lenOf false x0).bind fun n2 => (U.bin .lss x4 (.int .i64 (n2 : Int))).bind fun t3 => U.asBool t3
 (U.asInt x4 fun n4 => U.elemAt 5 x0 n4 fun e5 => U.asVar true 5 e5 fun e6 => (E 109 [e6]).bind fun t7 => U.asInt x4 fun n8 => if 5 = 5 ∧ 0 ≤ n8 ∧ n8 < ((c3).length : Int) then if storable (.val t7) = true ∧ t7.size = 5 then (c3[(n8 : Int).toNat]?).bind fun e9 => if e9.size = 5 then (U.bin .add x4 (.int .i64 1)).bind fun t10 => laws_toVersionS_F_l0 E x0 t10 (c3.set (n8 : Int).toNat t7) else none else none else none)
 (if U.flat.flats c3 = true then some (.sl 5 c3) else none) :=
 (loop_eq E _ _ _ _).trans (by kernel_rfl)

/-- In the environment E: this function and those that it calls. -/
structure G_laws_toVersionS_F (E : Env) : Prop where
  is : Is E 100108 1 laws_toVersionS_F_ac [(2, none)]
  c_laws_toVersion : G_laws_toVersion E
theorem laws_toVersionS_F_E {E : Env} (h : G_laws_toVersionS_F E) (a0 : U) : E 100108 [a0] =
 (U.lenOf false a0).bind fun n1 => if 0 ≤ (n1 : Int) ∧ (n1 : Int) ≤ (n1 : Int) ∧ (n1 : Int) * 40 ≤ 140737488355328 ∧ ((.agg [(.int .i64 0), (.int .i64 0), (.int .i64 0), (.int .i64 0), (.int .i64 0)]) : U).size = 5 then laws_toVersionS_F_l0 E a0 (.int .i64 0) (List.replicate ((n1 : Int) : Int).toNat (.agg [(.int .i64 0), (.int .i64 0), (.int .i64 0), (.int .i64 0), (.int .i64 0)])) else none := (h.is _ rfl).trans ((runQ_F rfl).trans (laws_toVersionS_F_eq E a0))

end Go.Proofs.Ytmebdbagcbgddaa.Am
namespace Go.Proofs.Ytmebdbagcbgddaa.Am
open Go
set_option linter.unusedVariables false
set_option maxRecDepth 100000

/- loop.example/g01924/laws.toVersionSS!F -/
def laws_toVersionSS_F_b0 : AC :=
 (.seq (.seq (.region 0 [⟨some 8, .mv (.t 4), none⟩,
  ⟨some 9, .mv (.t 0), none⟩,
  ⟨some 10, .len false (.t 9), none⟩,
  ⟨some 11, .bin .lss (.t 8) (.t 10), none⟩])
 (.cond (.t 11) .skip (.exit 0)))
 (.seq (.block 1 (.region 0 [⟨some 14, .mv (.t 3), none⟩,
  ⟨some 15, .mv (.t 4), none⟩,
  ⟨some 16, .mv (.t 0), none⟩,
  ⟨some 17, .mv (.t 4), none⟩,
  ⟨some 18, .iaddr 1 (.t 16) (.t 17), none⟩,
  ⟨some 19, .load false 1 (.t 18), none⟩,
  ⟨some 20, .callF 20 false [(.sl 5)] 108 [(.t 19)], none⟩,
  ⟨some 21, .iaddr 1 (.t 14) (.t 15), none⟩,
  ⟨none, .storeE 1 (.t 21) (.t 20), none⟩]))
 (.region 0 [⟨some 12, .mv (.t 4), none⟩,
  ⟨some 13, .bin .add (.t 12) (.c (.int .i64 1)), none⟩,
  ⟨some 4, .mv (.t 13), none⟩])))
def laws_toVersionSS_F_r0 : AC :=
 (.seq (.region 0 [⟨some 22, .mv (.t 3), none⟩,
  ⟨some 2, .mv (.t 22), none⟩])
 .ret)
def laws_toVersionSS_F_ac : AC :=
 (.seq (.region 0 [⟨some 2, .mv (.c (.nsl 1)), none⟩])
 (.seq (.region 0 [⟨some 5, .mv (.t 0), none⟩,
  ⟨some 6, .len false (.t 5), none⟩,
  ⟨some 7, .mkslice 7 1 24 (.nsl 5) (.t 6) (.t 6), none⟩,
  ⟨some 3, .mv (.t 7), none⟩])
 (.seq (.seq (.region 0 [⟨some 4, .mv (.c (.int .i64 0)), none⟩])
 (.block 0 (.loop ⟨[0, 4], [(3, 1, true)], []⟩ laws_toVersionSS_F_b0)))
 laws_toVersionSS_F_r0)))
noncomputable def laws_toVersionSS_F_l0 (E : Env) (x0 : U) (x4 : U) (c3 : List U) : Option U := loopK (roundOf E ⟨[0, 4], [(3, 1, true)], []⟩ laws_toVersionSS_F_b0 (blockK 0 (seqK (fun s => exec E laws_toVersionSS_F_r0 s (finishF [(2, none)])) (finishF [(2, none)])))) ([.val x0, .val x4], [.vir (.own (.sl 1 c3))])
theorem laws_toVersionSS_F_eq (E : Env) (a0 : U) : exec E laws_toVersionSS_F_ac (start [a0]) (finishF [(2, none)]) =
 (U.lenOf false a0).bind fun n1 => if 0 ≤ (n1 : Int) ∧ (n1 : Int) ≤ (n1 : Int) ∧ (n1 : Int) * 24 ≤ 140737488355328 ∧ ((.nsl 5) : U).size = 1 then if U.flat.flats (List.replicate ((n1 : Int) : Int).toNat (.nsl 5)) = true then laws_toVersionSS_F_l0 E a0 (.int .i64 0) (List.replicate ((n1 : Int) : Int).toNat (.nsl 5)) else none else none := by kernel_rfl
theorem laws_toVersionSS_F_l0_eq (E : Env) (x0 : U) (x4 : U) (c3 : List U) : laws_toVersionSS_F_l0 E x0 x4 c3 =
 (U.lenOf false x0).bind fun n2 => (U.bin .lss x4 (.int .i64 (n2 : Int))).bind fun t3 => U.asBool t3
 (U.asInt x4 fun n4 => U.elemAt 1 x0 n4 fun e5 => U.asVar false 1 e5 fun e6 => (E 100108 [e6]).bind fun t7 => U.noTup t7 fun x8 => U.asSlK 5 x8 fun us9 => U.asInt x4 fun n10 => if 1 = 1 ∧ 0 ≤ n10 ∧ n10 < (c3.length : Int) then (c3[(n10 : Int).toNat]?).bind fun e11 => if e11.size = 1 then (U.bin .add x4 (.int .i64 1)).bind fun t12 => laws_toVersionSS_F_l0 E x0 t12 (c3.set (n10 : Int).toNat (.sl 5 us9)) else none else none)
 (some (.sl 1 c3)) :=
 (loop_eq E _ _ _ _).trans (by kernel_rfl)

/-- In the environment E: this function and those that it calls. -/
structure G_laws_toVersionSS_F (E : Env) : Prop where
  is : Is E 100107 1 laws_toVersionSS_F_ac [(2, none)]
  c_laws_toVersionS_F : G_laws_toVersionS_F E
theorem laws_toVersionSS_F_E {E : Env} (h : G_laws_toVersionSS_F E) (a0 : U) : E 100107 [a0] =
 (U.lenOf false a0).bind fun n1 => if 0 ≤ (n1 : Int) ∧ (n1 : Int) ≤ (n1 : Int) ∧ (n1 : Int) * 24 ≤ 140737488355328 ∧ ((.nsl 5) : U).size = 1 then if U.flat.flats (List.replicate ((n1 : Int) : Int).toNat (.nsl 5)) = true then laws_toVersionSS_F_l0 E a0 (.int .i64 0) (List.replicate ((n1 : Int) : Int).toNat (.nsl 5)) else none else none := (h.is _ rfl).trans ((runQ_F rfl).trans (laws_toVersionSS_F_eq E a0))

end Go.Proofs.Ytmebdbagcbgddaa.Am
namespace Go.Proofs.Ytmebdbagcbgddaa.Am
open Go
set_option linter.unusedVariables false
set_option maxRecDepth 100000

/- loop.example/g01924/laws.toStore!F -/
def laws_toStore_F_ac : AC :=
 (.seq (.region 0 [⟨some 1, .box false 1 (.t 0), none⟩,
  ⟨some 2, .alloc 2 (.agg [(.nsl 1)]), none⟩])
 (.seq (.region 0 [⟨some 3, .alloc 3 (.agg [(.nsl 1)]), none⟩])
 (.seq (.region 0 [⟨some 4, .faddr 0 0 (.t 1), none⟩,
  ⟨some 5, .load false 1 (.t 4), none⟩,
  ⟨some 6, .callF 6 false [(.sl 1)] 107 [(.t 5)], none⟩,
  ⟨some 7, .faddr 0 0 (.t 3), none⟩,
  ⟨none, .storeM 3000 1 (.t 7) (.t 6), none⟩])
 (.seq (.region 0 [⟨some 8, .loadO (.agg [(.sl 1)]) (.t 3), none⟩,
  ⟨none, .storeM 3001 1 (.t 2) (.t 8), none⟩])
 .ret))))

theorem laws_toStore_F_eq (E : Env) (a0 : U) : exec E laws_toStore_F_ac (start [a0]) (finishF [(2, some (true, 1))]) =
 U.noTup a0 fun x1 => U.asAgg x1 fun us2 => if 0 = sizes (us2.take 0) then (us2[0]?).bind fun e3 => U.asVar false 1 e3 fun e4 => (E 100107 [e4]).bind fun t5 => U.noTup t5 fun x6 => U.asSlK 1 x6 fun us7 => some (.agg [(.sl 1 us7)]) else none := by kernel_rfl

/-- In the environment E: this function and those that it calls. -/
structure G_laws_toStore_F (E : Env) : Prop where
  is : Is E 100093 1 laws_toStore_F_ac [(2, some (true, 1))]
  c_laws_toVersionSS_F : G_laws_toVersionSS_F E
theorem laws_toStore_F_E {E : Env} (h : G_laws_toStore_F E) (a0 : U) : E 100093 [a0] =
 U.noTup a0 fun x1 => U.asAgg x1 fun us2 => if 0 = sizes (us2.take 0) then (us2[0]?).bind fun e3 => U.asVar false 1 e3 fun e4 => (E 100107 [e4]).bind fun t5 => U.noTup t5 fun x6 => U.asSlK 1 x6 fun us7 => some (.agg [(.sl 1 us7)]) else none := (h.is _ rfl).trans ((runQ_F rfl).trans (laws_toStore_F_eq E a0))

end Go.Proofs.Ytmebdbagcbgddaa.Am
namespace Go.Proofs.Ytmebdbagcbgddaa.Am
open Go
set_option linter.unusedVariables false
set_option maxRecDepth 100000

/- loop.example/g01924/impl.MarksAt!F -/
def impl_MarksAt_F_b0 : AC :=
 (.seq (.region 0 [⟨some 11, .bin .lss (.t 10) (.c (.int .i64 6)), none⟩])
 (.seq (.cond (.t 11) .skip (.exit 0))
 (.seq (.block 1 (.seq (.region 0 [⟨some 12, .mv (.t 10), none⟩,
  ⟨some 6, .mv (.t 12), none⟩])
 (.seq (.region 0 [⟨some 14, .load true 1 (.t 2), none⟩,
  ⟨some 15, .mv (.t 6), none⟩,
  ⟨some 16, .mv (.t 1), none⟩,
  ⟨some 17, .call false 110 [(.t 14), (.t 15), (.t 16)], none⟩,
  ⟨some 13, .mv (.t 17), none⟩,
  ⟨some 18, .extract 0 (.t 13), none⟩,
  ⟨some 19, .extract 1 (.t 13), none⟩,
  ⟨some 7, .alloc 7 (.agg [(.int .i64 0), (.int .i64 0), (.int .i64 0), (.int .i64 0), (.int .i64 0)]), none⟩,
  ⟨none, .store 5 (.t 7) (.t 18), none⟩,
  ⟨some 8, .mv (.t 19), none⟩])
 (.seq (.seq (.region 0 [⟨some 20, .mv (.t 8), none⟩,
  ⟨some 21, .un .not (.t 20), none⟩])
 (.cond (.t 21) (.seq (.region 0 [⟨some 4, .mv (.c (.nsl 2)), none⟩])
 .ret) .skip))
 (.region 0 [⟨some 22, .mv (.t 5), none⟩,
  ⟨some 23, .mv (.t 6), none⟩,
  ⟨some 24, .faddr 2 2 (.t 7), none⟩,
  ⟨some 25, .load false 1 (.t 24), none⟩,
  ⟨some 26, .build [(.int .i64 0), (.int .i64 0)] [(0, (.t 23)), (1, (.t 25))], none⟩,
  ⟨some 27, .bslice 0 27 2 1 (.agg [(.int .i64 0), (.int .i64 0)]) [(0, (.t 26))], none⟩,
  ⟨some 28, .append false 28 2 16 (.t 22) (.t 27), none⟩,
  ⟨some 5, .mv (.t 28), none⟩])))))
 (.region 0 [⟨some 29, .bin .add (.t 10) (.c (.int .i64 1)), none⟩,
  ⟨some 10, .mv (.t 29), none⟩]))))
def impl_MarksAt_F_r0 : AC :=
 (.seq (.region 0 [⟨some 30, .mv (.t 5), none⟩,
  ⟨some 4, .mv (.t 30), none⟩])
 .ret)
def impl_MarksAt_F_ac : AC :=
 (.seq (.region 0 [⟨some 2, .box false 2 (.t 0), none⟩,
  ⟨some 4, .mv (.c (.nsl 2)), none⟩])
 (.seq (.region 0 [⟨some 9, .bslice 1 9 2 0 (.agg [(.int .i64 0), (.int .i64 0)]) [], none⟩,
  ⟨some 5, .mv (.t 9), none⟩])
 (.seq (.seq (.region 0 [⟨some 10, .mv (.c (.int .i64 0)), none⟩])
 (.block 0 (.loop ⟨[1, 2, 10], [(5, 2, false)], [(2, false)]⟩ impl_MarksAt_F_b0)))
 impl_MarksAt_F_r0)))
noncomputable def impl_MarksAt_F_l0 (E : Env) (x1 : U) (x10 : U) (c5 : List U) (b2 : U) : Option U := loopK (roundOf E ⟨[1, 2, 10], [(5, 2, false)], [(2, false)]⟩ impl_MarksAt_F_b0 (blockK 0 (seqK (fun s => exec E impl_MarksAt_F_r0 s (finishF [(4, none)])) (finishF [(4, none)])))) ([.val x1, .ptr 2 [], .val x10], [.vir (.asl 2 c5), .box (.val b2)])
theorem impl_MarksAt_F_eq (E : Env) (a0 : U) (a1 : U) : exec E impl_MarksAt_F_ac (start [a0, a1]) (finishF [(4, none)]) =
 U.noTup a0 fun x1 => impl_MarksAt_F_l0 E a1 (.int .i64 0) [] x1 := by kernel_rfl
theorem impl_MarksAt_F_l0_eq (E : Env) (x1 : U) (x10 : U) (c5 : List U) (b2 : U) : impl_MarksAt_F_l0 E x1 x10 c5 b2 =
 (U.bin .lss x10 (.int .i64 6)).bind fun t2 => U.asBool t2
 (U.asVar true 1 b2 fun e3 => (E 110 [e3, x10, x1]).bind fun t4 => U.part 0 t4 fun p5 => U.part 1 t4 fun p6 => if storable (.val p5) = true ∧ p5.size = 5 then (U.un .not p6).bind fun t7 => U.asBool t7
 (some (.sl 2 []))
 (U.asAgg p5 fun us8 => if 2 = sizes (us8.take 2) then (us8[2]?).bind fun e9 => U.asVar false 1 e9 fun e10 => if partable (.val x10) = true ∧ x10.size = 1 then if partable (.val e10) = true ∧ e10.size = 1 then if partable (.val (.agg [x10, e10])) = true ∧ ((.agg [x10, e10]) : U).size = 2 then if 2 = 2 ∧ 2 = 2 ∧ ((c5).length + ([(.agg [x10, e10])] : List U).length) * 16 ≤ 140737488355328 then (U.bin .add x10 (.int .i64 1)).bind fun t11 => impl_MarksAt_F_l0 E x1 t11 (c5 ++ [(.agg [x10, e10])]) b2 else none else none else none else none else none) else none)
 (if U.flat.flats c5 = true then some (.sl 2 c5) else none) :=
 (loop_eq E _ _ _ _).trans (by kernel_rfl)

/-- In the environment E: this function and those that it calls. -/
structure G_impl_MarksAt_F (E : Env) : Prop where
  is : Is E 100094 2 impl_MarksAt_F_ac [(4, none)]
  c_impl_ReadAt : G_impl_ReadAt E
theorem impl_MarksAt_F_E {E : Env} (h : G_impl_MarksAt_F E) (a0 a1 : U) : E 100094 [a0, a1] =
 U.noTup a0 fun x1 => impl_MarksAt_F_l0 E a1 (.int .i64 0) [] x1 := (h.is _ rfl).trans ((runQ_F rfl).trans (impl_MarksAt_F_eq E a0 a1))

end Go.Proofs.Ytmebdbagcbgddaa.Am
namespace Go.Proofs.Ytmebdbagcbgddaa.Am
open Go
set_option linter.unusedVariables false
set_option maxRecDepth 100000

/- loop.example/g01924/laws.markReadMarkS!M -/
def laws_markReadMarkS_M_b0 : AC :=
 (.seq (.seq (.region 0 [⟨some 6, .mv (.t 5), none⟩,
  ⟨some 7, .mv (.t 0), none⟩,
  ⟨some 8, .len false (.t 7), none⟩,
  ⟨some 9, .bin .lss (.t 6) (.t 8), none⟩])
 (.cond (.t 9) .skip (.exit 0)))
 (.seq (.block 1 (.seq (.region 0 [⟨some 12, .mv (.t 0), none⟩,
  ⟨some 13, .mv (.t 5), none⟩,
  ⟨some 14, .mv (.t 1), none⟩,
  ⟨some 15, .iaddr 2 (.t 12) (.t 13), none⟩,
  ⟨some 16, .faddr 0 0 (.t 15), none⟩,
  ⟨none, .store 1 (.t 16) (.t 14), none⟩])
 (.seq (.region 0 [⟨some 17, .mv (.t 1), none⟩,
  ⟨some 18, .bin .add (.t 17) (.c (.int .i64 1)), none⟩,
  ⟨some 1, .mv (.t 18), none⟩])
 (.seq (.region 0 [⟨some 19, .mv (.t 0), none⟩,
  ⟨some 20, .mv (.t 5), none⟩,
  ⟨some 21, .mv (.t 1), none⟩,
  ⟨some 22, .iaddr 2 (.t 19) (.t 20), none⟩,
  ⟨some 23, .faddr 1 1 (.t 22), none⟩,
  ⟨none, .store 1 (.t 23) (.t 21), none⟩])
 (.region 0 [⟨some 24, .mv (.t 1), none⟩,
  ⟨some 25, .bin .add (.t 24) (.c (.int .i64 1)), none⟩,
  ⟨some 1, .mv (.t 25), none⟩])))))
 (.region 0 [⟨some 10, .mv (.t 5), none⟩,
  ⟨some 11, .bin .add (.t 10) (.c (.int .i64 1)), none⟩,
  ⟨some 5, .mv (.t 11), none⟩])))
def laws_markReadMarkS_M_r0 : AC :=
 (.seq (.region 0 [⟨some 26, .mv (.t 1), none⟩,
  ⟨some 4, .mv (.t 26), none⟩])
 .ret)
def laws_markReadMarkS_M_ac : AC :=
 (.seq (.region 0 [⟨some 4, .mv (.c (.int .i64 0)), none⟩])
 (.seq (.seq (.region 0 [⟨some 5, .mv (.c (.int .i64 0)), none⟩])
 (.block 0 (.loop ⟨[0, 1, 5], [], [(5000, true)]⟩ laws_markReadMarkS_M_b0)))
 laws_markReadMarkS_M_r0))
noncomputable def laws_markReadMarkS_M_l0 (E : Env) (x1 : U) (x5 : U) (b5000 : List U) : Option U := loopK (roundOf E ⟨[0, 1, 5], [], [(5000, true)]⟩ laws_markReadMarkS_M_b0 (blockK 0 (seqK (fun s => exec E laws_markReadMarkS_M_r0 s (finishM 2 [(4, none)])) (finishM 2 [(4, none)])))) ([.ref 5000 [] 2 none, .val x1, .val x5], [.vir (.own (.sl 2 b5000))])
theorem laws_markReadMarkS_M_eq (E : Env) (xs0 : List U) (a1 : U) : exec E laws_markReadMarkS_M_ac (startM 2 xs0 [a1]) (finishM 2 [(4, none)]) =
 laws_markReadMarkS_M_l0 E a1 (.int .i64 0) xs0 := by kernel_rfl
theorem laws_markReadMarkS_M_l0_eq (E : Env) (x1 : U) (x5 : U) (b5000 : List U) : laws_markReadMarkS_M_l0 E x1 x5 b5000 =
 (U.bin .lss x5 (.int .i64 (b5000.length : Int))).bind fun t1 => U.asBool t1
 (U.asInt x5 fun n2 => if 2 = 2 ∧ 0 ≤ n2 ∧ n2 < (b5000.length : Int) then if storable (.val x1) = true ∧ x1.size = 1 then (b5000[(n2 : Int).toNat]?).bind fun e3 => U.asAgg e3 fun us4 => if 0 = sizes (us4.take 0) then (us4[0]?).bind fun e5 => if e5.size = 1 then if (x1 : U).flat = true then (U.bin .add x1 (.int .i64 1)).bind fun t6 => U.asInt x5 fun n7 => if 2 = 2 ∧ 0 ≤ n7 ∧ n7 < (((b5000.set (n2 : Int).toNat (.agg (us4.set 0 x1)))).length : Int) then if storable (.val t6) = true ∧ t6.size = 1 then ((b5000.set (n2 : Int).toNat (.agg (us4.set 0 x1)))[(n7 : Int).toNat]?).bind fun e8 => U.asAgg e8 fun us9 => if 1 = sizes (us9.take 1) then (us9[1]?).bind fun e10 => if e10.size = 1 then if (t6 : U).flat = true then (U.bin .add t6 (.int .i64 1)).bind fun t11 => (U.bin .add x5 (.int .i64 1)).bind fun t12 => laws_markReadMarkS_M_l0 E t11 t12 ((b5000.set (n2 : Int).toNat (.agg (us4.set 0 x1))).set (n7 : Int).toNat (.agg (us9.set 1 t6))) else none else none else none else none else none else none else none else none else none else none)
 (if (x1 : U).flat = true then some (.tup [x1, .sl 2 b5000]) else none) :=
 (loop_eq E _ _ _ _).trans (by kernel_rfl)

/-- In the environment E: this function and those that it calls. -/
structure G_laws_markReadMarkS_M (E : Env) : Prop where
  is : Is E 200095 2 laws_markReadMarkS_M_ac [(4, none)]
theorem laws_markReadMarkS_M_E {E : Env} (h : G_laws_markReadMarkS_M E) (xs0 : List U) (a1 : U) : E 200095 (.agg [.tup [.sl 2 xs0]] :: [a1]) =
 laws_markReadMarkS_M_l0 E a1 (.int .i64 0) xs0 := (h.is _ rfl).trans ((runQ_M rfl).trans (laws_markReadMarkS_M_eq E xs0 a1))

end Go.Proofs.Ytmebdbagcbgddaa.Am
namespace Go.Proofs.Ytmebdbagcbgddaa.Am
open Go
set_option linter.unusedVariables false
set_option maxRecDepth 100000

/- loop.example/g01924/laws.markVersionS!M -/
def laws_markVersionS_M_b0 : AC :=
 (.seq (.seq (.region 0 [⟨some 6, .mv (.t 5), none⟩,
  ⟨some 7, .mv (.t 0), none⟩,
  ⟨some 8, .len false (.t 7), none⟩,
  ⟨some 9, .bin .lss (.t 6) (.t 8), none⟩])
 (.cond (.t 9) .skip (.exit 0)))
 (.seq (.block 1 (.seq (.region 0 [⟨some 12, .mv (.t 0), none⟩,
  ⟨some 13, .mv (.t 5), none⟩,
  ⟨some 14, .mv (.t 1), none⟩,
  ⟨some 15, .iaddr 5 (.t 12) (.t 13), none⟩,
  ⟨some 16, .faddr 0 0 (.t 15), none⟩,
  ⟨none, .store 1 (.t 16) (.t 14), none⟩])
 (.seq (.region 0 [⟨some 17, .mv (.t 1), none⟩,
  ⟨some 18, .bin .add (.t 17) (.c (.int .i64 1)), none⟩,
  ⟨some 1, .mv (.t 18), none⟩])
 (.seq (.region 0 [⟨some 19, .mv (.t 0), none⟩,
  ⟨some 20, .mv (.t 5), none⟩,
  ⟨some 21, .mv (.t 1), none⟩,
  ⟨some 22, .iaddr 5 (.t 19) (.t 20), none⟩,
  ⟨some 23, .faddr 1 1 (.t 22), none⟩,
  ⟨none, .store 1 (.t 23) (.t 21), none⟩])
 (.seq (.region 0 [⟨some 24, .mv (.t 1), none⟩,
  ⟨some 25, .bin .add (.t 24) (.c (.int .i64 1)), none⟩,
  ⟨some 1, .mv (.t 25), none⟩])
 (.seq (.region 0 [⟨some 26, .mv (.t 0), none⟩,
  ⟨some 27, .mv (.t 5), none⟩,
  ⟨some 28, .mv (.t 1), none⟩,
  ⟨some 29, .iaddr 5 (.t 26) (.t 27), none⟩,
  ⟨some 30, .faddr 2 2 (.t 29), none⟩,
  ⟨none, .store 1 (.t 30) (.t 28), none⟩])
 (.seq (.region 0 [⟨some 31, .mv (.t 1), none⟩,
  ⟨some 32, .bin .add (.t 31) (.c (.int .i64 1)), none⟩,
  ⟨some 1, .mv (.t 32), none⟩])
 (.seq (.region 0 [⟨some 33, .mv (.t 0), none⟩,
  ⟨some 34, .mv (.t 5), none⟩,
  ⟨some 35, .mv (.t 1), none⟩,
  ⟨some 36, .iaddr 5 (.t 33) (.t 34), none⟩,
  ⟨some 37, .faddr 3 3 (.t 36), none⟩,
  ⟨none, .store 1 (.t 37) (.t 35), none⟩])
 (.seq (.region 0 [⟨some 38, .mv (.t 1), none⟩,
  ⟨some 39, .bin .add (.t 38) (.c (.int .i64 1)), none⟩,
  ⟨some 1, .mv (.t 39), none⟩])
 (.seq (.region 0 [⟨some 40, .mv (.t 0), none⟩,
  ⟨some 41, .mv (.t 5), none⟩,
  ⟨some 42, .mv (.t 1), none⟩,
  ⟨some 43, .iaddr 5 (.t 40) (.t 41), none⟩,
  ⟨some 44, .faddr 4 4 (.t 43), none⟩,
  ⟨none, .store 1 (.t 44) (.t 42), none⟩])
 (.region 0 [⟨some 45, .mv (.t 1), none⟩,
  ⟨some 46, .bin .add (.t 45) (.c (.int .i64 1)), none⟩,
  ⟨some 1, .mv (.t 46), none⟩])))))))))))
 (.region 0 [⟨some 10, .mv (.t 5), none⟩,
  ⟨some 11, .bin .add (.t 10) (.c (.int .i64 1)), none⟩,
  ⟨some 5, .mv (.t 11), none⟩])))
def laws_markVersionS_M_r0 : AC :=
 (.seq (.region 0 [⟨some 47, .mv (.t 1), none⟩,
  ⟨some 4, .mv (.t 47), none⟩])
 .ret)
def laws_markVersionS_M_ac : AC :=
 (.seq (.region 0 [⟨some 4, .mv (.c (.int .i64 0)), none⟩])
 (.seq (.seq (.region 0 [⟨some 5, .mv (.c (.int .i64 0)), none⟩])
 (.block 0 (.loop ⟨[0, 1, 5], [], [(5000, true)]⟩ laws_markVersionS_M_b0)))
 laws_markVersionS_M_r0))
noncomputable def laws_markVersionS_M_l0 (E : Env) (x1 : U) (x5 : U) (b5000 : List U) : Option U := loopK (roundOf E ⟨[0, 1, 5], [], [(5000, true)]⟩ laws_markVersionS_M_b0 (blockK 0 (seqK (fun s => exec E laws_markVersionS_M_r0 s (finishM 5 [(4, none)])) (finishM 5 [(4, none)])))) ([.ref 5000 [] 5 none, .val x1, .val x5], [.vir (.own (.sl 5 b5000))])
theorem laws_markVersionS_M_eq (E : Env) (xs0 : List U) (a1 : U) : exec E laws_markVersionS_M_ac (startM 5 xs0 [a1]) (finishM 5 [(4, none)]) =
 laws_markVersionS_M_l0 E a1 (.int .i64 0) xs0 := by kernel_rfl
theorem laws_markVersionS_M_l0_eq (E : Env) (x1 : U) (x5 : U) (b5000 : List U) : laws_markVersionS_M_l0 E x1 x5 b5000 =
 (U.bin .lss x5 (.int .i64 (b5000.length : Int))).bind fun t1 => U.asBool t1
 (U.asInt x5 fun n2 => if 5 = 5 ∧ 0 ≤ n2 ∧ n2 < (b5000.length : Int) then if storable (.val x1) = true ∧ x1.size = 1 then (b5000[(n2 : Int).toNat]?).bind fun e3 => U.asAgg e3 fun us4 => if 0 = sizes (us4.take 0) then (us4[0]?).bind fun e5 => if e5.size = 1 then if (x1 : U).flat = true then (U.bin .add x1 (.int .i64 1)).bind fun t6 => U.asInt x5 fun n7 => if 5 = 5 ∧ 0 ≤ n7 ∧ n7 < (((b5000.set (n2 : Int).toNat (.agg (us4.set 0 x1)))).length : Int) then if storable (.val t6) = true ∧ t6.size = 1 then ((b5000.set (n2 : Int).toNat (.agg (us4.set 0 x1)))[(n7 : Int).toNat]?).bind fun e8 => U.asAgg e8 fun us9 => if 1 = sizes (us9.take 1) then (us9[1]?).bind fun e10 => if e10.size = 1 then if (t6 : U).flat = true then (U.bin .add t6 (.int .i64 1)).bind fun t11 => U.asInt x5 fun n12 => if 5 = 5 ∧ 0 ≤ n12 ∧ n12 < ((((b5000.set (n2 : Int).toNat (.agg (us4.set 0 x1))).set (n7 : Int).toNat (.agg (us9.set 1 t6)))).length : Int) then if storable (.val t11) = true ∧ t11.size = 1 then (((b5000.set (n2 : Int).toNat (.agg (us4.set 0 x1))).set (n7 : Int).toNat (.agg (us9.set 1 t6)))[(n12 : Int).toNat]?).bind fun e13 => U.asAgg e13 fun us14 => if 2 = sizes (us14.take 2) then (us14[2]?).bind fun e15 => if e15.size = 1 then if (t11 : U).flat = true then (U.bin .add t11 (.int .i64 1)).bind fun t16 => U.asInt x5 fun n17 => if 5 = 5 ∧ 0 ≤ n17 ∧ n17 < (((((b5000.set (n2 : Int).toNat (.agg (us4.set 0 x1))).set (n7 : Int).toNat (.agg (us9.set 1 t6))).set (n12 : Int).toNat (.agg (us14.set 2 t11)))).length : Int) then if storable (.val t16) = true ∧ t16.size = 1 then ((((b5000.set (n2 : Int).toNat (.agg (us4.set 0 x1))).set (n7 : Int).toNat (.agg (us9.set 1 t6))).set (n12 : Int).toNat (.agg (us14.set 2 t11)))[(n17 : Int).toNat]?).bind fun e18 => U.asAgg e18 fun us19 => if 3 = sizes (us19.take 3) then (us19[3]?).bind fun e20 => if e20.size = 1 then if (t16 : U).flat = true then (U.bin .add t16 (.int .i64 1)).bind fun t21 => U.asInt x5 fun n22 => if 5 = 5 ∧ 0 ≤ n22 ∧ n22 < ((((((b5000.set (n2 : Int).toNat (.agg (us4.set 0 x1))).set (n7 : Int).toNat (.agg (us9.set 1 t6))).set (n12 : Int).toNat (.agg (us14.set 2 t11))).set (n17 : Int).toNat (.agg (us19.set 3 t16)))).length : Int) then if storable (.val t21) = true ∧ t21.size = 1 then (((((b5000.set (n2 : Int).toNat (.agg (us4.set 0 x1))).set (n7 : Int).toNat (.agg (us9.set 1 t6))).set (n12 : Int).toNat (.agg (us14.set 2 t11))).set (n17 : Int).toNat (.agg (us19.set 3 t16)))[(n22 : Int).toNat]?).bind fun e23 => U.asAgg e23 fun us24 => if 4 = sizes (us24.take 4) then (us24[4]?).bind fun e25 => if e25.size = 1 then if (t21 : U).flat = true then (U.bin .add t21 (.int .i64 1)).bind fun t26 => (U.bin .add x5 (.int .i64 1)).bind fun t27 => laws_markVersionS_M_l0 E t26 t27 (((((b5000.set (n2 : Int).toNat (.agg (us4.set 0 x1))).set (n7 : Int).toNat (.agg (us9.set 1 t6))).set (n12 : Int).toNat (.agg (us14.set 2 t11))).set (n17 : Int).toNat (.agg (us19.set 3 t16))).set (n22 : Int).toNat (.agg (us24.set 4 t21))) else none else none else none else none else none else none else none else none else none else none else none else none else none else none else none else none else none else none else none else none else none else none else none else none else none)
 (if (x1 : U).flat = true then some (.tup [x1, .sl 5 b5000]) else none) :=
 (loop_eq E _ _ _ _).trans (by kernel_rfl)

/-- In the environment E: this function and those that it calls. -/
structure G_laws_markVersionS_M (E : Env) : Prop where
  is : Is E 200122 2 laws_markVersionS_M_ac [(4, none)]
theorem laws_markVersionS_M_E {E : Env} (h : G_laws_markVersionS_M E) (xs0 : List U) (a1 : U) : E 200122 (.agg [.tup [.sl 5 xs0]] :: [a1]) =
 laws_markVersionS_M_l0 E a1 (.int .i64 0) xs0 := (h.is _ rfl).trans ((runQ_M rfl).trans (laws_markVersionS_M_eq E xs0 a1))

end Go.Proofs.Ytmebdbagcbgddaa.Am
namespace Go.Proofs.Ytmebdbagcbgddaa.Am
open Go
set_option linter.unusedVariables false
set_option maxRecDepth 100000

/- loop.example/g01924/laws.markVersionSS!M -/
def laws_markVersionSS_M_b0 : AC :=
 (.seq (.seq (.region 0 [⟨some 6, .mv (.t 5), none⟩,
  ⟨some 7, .mv (.t 0), none⟩,
  ⟨some 8, .len false (.t 7), none⟩,
  ⟨some 9, .bin .lss (.t 6) (.t 8), none⟩])
 (.cond (.t 9) .skip (.exit 0)))
 (.seq (.block 1 (.region 0 [⟨some 12, .mv (.t 0), none⟩,
  ⟨some 13, .mv (.t 5), none⟩,
  ⟨some 14, .iaddr 1 (.t 12) (.t 13), none⟩,
  ⟨some 15, .loadO (.sl 5) (.t 14), none⟩,
  ⟨some 16, .mv (.t 1), none⟩,
  ⟨some 17, .callM 5 122 (.t 15) [(.t 16)], none⟩,
  ⟨some 1, .mv (.t 17), none⟩]))
 (.region 0 [⟨some 10, .mv (.t 5), none⟩,
  ⟨some 11, .bin .add (.t 10) (.c (.int .i64 1)), none⟩,
  ⟨some 5, .mv (.t 11), none⟩])))
def laws_markVersionSS_M_r0 : AC :=
 (.seq (.region 0 [⟨some 18, .mv (.t 1), none⟩,
  ⟨some 4, .mv (.t 18), none⟩])
 .ret)
def laws_markVersionSS_M_ac : AC :=
 (.seq (.region 0 [⟨some 4, .mv (.c (.int .i64 0)), none⟩])
 (.seq (.seq (.region 0 [⟨some 5, .mv (.c (.int .i64 0)), none⟩])
 (.block 0 (.loop ⟨[0, 1, 5], [], [(5000, true)]⟩ laws_markVersionSS_M_b0)))
 laws_markVersionSS_M_r0))
noncomputable def laws_markVersionSS_M_l0 (E : Env) (x1 : U) (x5 : U) (b5000 : List U) : Option U := loopK (roundOf E ⟨[0, 1, 5], [], [(5000, true)]⟩ laws_markVersionSS_M_b0 (blockK 0 (seqK (fun s => exec E laws_markVersionSS_M_r0 s (finishM 1 [(4, none)])) (finishM 1 [(4, none)])))) ([.ref 5000 [] 1 none, .val x1, .val x5], [.vir (.own (.sl 1 b5000))])
theorem laws_markVersionSS_M_eq (E : Env) (xs0 : List U) (a1 : U) : exec E laws_markVersionSS_M_ac (startM 1 xs0 [a1]) (finishM 1 [(4, none)]) =
 laws_markVersionSS_M_l0 E a1 (.int .i64 0) xs0 := by kernel_rfl
theorem laws_markVersionSS_M_l0_eq (E : Env) (x1 : U) (x5 : U) (b5000 : List U) : laws_markVersionSS_M_l0 E x1 x5 b5000 =
 (U.bin .lss x5 (.int .i64 (b5000.length : Int))).bind fun t1 => U.asBool t1
 (U.asInt x5 fun n2 => if 1 = 1 ∧ 0 ≤ n2 ∧ n2 < (b5000.length : Int) then (b5000[(n2 : Int).toNat]?).bind fun e3 => U.asSlK 5 e3 fun _ => (b5000[(n2 : Int).toNat]?).bind fun e4 => U.asSlK 5 e4 fun _ => U.asSlK 5 e4 fun us5 => (E 200122 (.agg [.tup [.sl 5 us5]] :: [x1])).bind fun t6 => U.asMut 5 t6 fun y7 ys8 => U.asFlat y7 fun y7 => (b5000[(n2 : Int).toNat]?).bind fun e9 => if e9.size = 1 then (U.bin .add x5 (.int .i64 1)).bind fun t10 => laws_markVersionSS_M_l0 E y7 t10 (b5000.set (n2 : Int).toNat (.sl 5 ys8)) else none else none)
 (if (x1 : U).flat = true then some (.tup [x1, .sl 1 b5000]) else none) :=
 (loop_eq E _ _ _ _).trans (by kernel_rfl)

/-- In the environment E: this function and those that it calls. -/
structure G_laws_markVersionSS_M (E : Env) : Prop where
  is : Is E 200121 2 laws_markVersionSS_M_ac [(4, none)]
  c_laws_markVersionS_M : G_laws_markVersionS_M E
theorem laws_markVersionSS_M_E {E : Env} (h : G_laws_markVersionSS_M E) (xs0 : List U) (a1 : U) : E 200121 (.agg [.tup [.sl 1 xs0]] :: [a1]) =
 laws_markVersionSS_M_l0 E a1 (.int .i64 0) xs0 := (h.is _ rfl).trans ((runQ_M rfl).trans (laws_markVersionSS_M_eq E xs0 a1))

end Go.Proofs.Ytmebdbagcbgddaa.Am
namespace Go.Proofs.Ytmebdbagcbgddaa.Am
open Go
set_option linter.unusedVariables false
set_option maxRecDepth 100000

/- loop.example/g01924/laws.FnExactMarksAt -/
def laws_FnExactMarksAt_r0 : AC :=
 (.region 0 [⟨some 9, .mv (.t 38), none⟩])
def laws_FnExactMarksAt_ac : AC :=
 (.seq (.region 0 [⟨some 2, .box false 2 (.t 0), none⟩,
  ⟨some 4, .mv (.c (.bool false)), none⟩])
 (.seq (.region 0 [⟨some 5, .mv (.c (.int .i64 1048576)), none⟩])
 (.seq (.region 0 [⟨some 13, .load true 1 (.t 2), none⟩,
  ⟨some 14, .mv (.t 5), none⟩,
  ⟨some 15, .call false 99 [(.t 13), (.t 14)], none⟩,
  ⟨some 5, .mv (.t 15), none⟩])
 (.seq (.seq (.region 0 [⟨some 16, .mv (.t 5), none⟩,
  ⟨some 17, .bin .lss (.t 16) (.c (.int .i64 0)), none⟩])
 (.cond (.t 17) (.seq (.region 0 [⟨some 4, .mv (.c (.bool true)), none⟩])
 .ret) .skip))
 (.seq (.region 0 [⟨some 18, .load true 1 (.t 2), none⟩,
  ⟨some 19, .call false 93 [(.t 18)], none⟩,
  ⟨some 20, .mv (.t 1), none⟩,
  ⟨some 21, .call false 98 [(.t 19), (.t 20)], none⟩,
  ⟨some 6, .mv (.t 21), none⟩])
 (.seq (.region 0 [⟨some 22, .load true 1 (.t 2), none⟩,
  ⟨some 23, .callF 23 false [(.agg [(.sl 1)])] 93 [(.t 22)], none⟩,
  ⟨some 7, .alloc 7 (.agg [(.nsl 1)]), none⟩,
  ⟨none, .storeM 3000 1 (.t 7) (.t 23), none⟩])
 (.seq (.region 0 [⟨some 24, .loadO (.agg [(.sl 1)]) (.t 7), none⟩,
  ⟨some 25, .mv (.t 1), none⟩,
  ⟨some 26, .callF 26 false [(.sl 2)] 94 [(.t 24), (.t 25)], none⟩,
  ⟨some 8, .mv (.t 26), none⟩])
 (.seq (.seq (.region 0 [⟨some 27, .mv (.t 8), none⟩,
  ⟨some 28, .mv (.t 6), none⟩,
  ⟨some 29, .call false 34 [(.t 27), (.t 28)], none⟩,
  ⟨some 30, .un .not (.t 29), none⟩])
 (.cond (.t 30) (.seq (.region 0 [⟨some 4, .mv (.c (.bool false)), none⟩])
 .ret) .skip))
 (.seq (.seq (.region 5 [⟨some 31, .loadO (.agg [(.sl 1)]) (.t 7), none⟩,
  ⟨some 32, .load true 1 (.t 2), none⟩,
  ⟨some 33, .call false 93 [(.t 32)], none⟩,
  ⟨some 34, .call false 97 [(.t 31), (.t 33)], none⟩,
  ⟨some 35, .un .not (.t 34), none⟩])
 (.cond (.t 35) (.seq (.region 0 [⟨some 4, .mv (.c (.bool false)), none⟩])
 .ret) .skip))
 (.seq (.region 0 [⟨some 9, .mv (.c (.int .i64 1)), none⟩])
 (.seq (.regI 0 [⟨some 36, .loadO (.agg [(.sl 1)]) (.t 7), none⟩,
  ⟨some 37, .mv (.t 9), none⟩] ⟨some 38, 74, 10, 96, [(.t 36), (.t 37)], [4]⟩ (.seq (.region 0 [⟨some 76, .boxS 76 (.t 74), none⟩,
  ⟨some 78, .mv (.c (.int .i64 0)), none⟩])
 (.seq (.region 0 [⟨some 79, .faddr 0 0 (.t 76), none⟩,
  ⟨some 80, .load false 1 (.t 79), none⟩,
  ⟨some 81, .mv (.t 75), none⟩,
  ⟨some 82, .callM 1 121 (.t 80) [(.t 81)], none⟩,
  ⟨some 75, .mv (.t 82), none⟩])
 (.seq (.region 0 [⟨some 83, .mv (.t 75), none⟩,
  ⟨some 78, .mv (.t 83), none⟩])
 .ret))) laws_FnExactMarksAt_r0)
 (.seq (.seq (.region 0 [⟨some 39, .mv (.t 9), none⟩,
  ⟨some 40, .bin .lss (.t 39) (.c (.int .i64 0)), none⟩,
  ⟨some 41, .mv (.t 40), none⟩,
  ⟨some 42, .mv (.t 8), some (41, false)⟩,
  ⟨some 43, .mv (.t 6), some (41, false)⟩,
  ⟨some 44, .call false 34 [(.t 42), (.t 43)], some (41, false)⟩,
  ⟨some 45, .un .not (.t 44), some (41, false)⟩,
  ⟨some 46, .pick (.t 41) (.c (.bool true)) (.t 45), none⟩])
 (.cond (.t 46) (.seq (.region 0 [⟨some 4, .mv (.c (.bool false)), none⟩])
 .ret) .skip))
 (.seq (.region 0 [⟨some 10, .mv (.c (.int .i64 1)), none⟩])
 (.seq (.region 0 [⟨some 47, .mv (.t 8), none⟩,
  ⟨some 48, .mv (.t 10), none⟩,
  ⟨some 49, .callM 2 95 (.t 47) [(.t 48)], none⟩,
  ⟨some 10, .mv (.t 49), none⟩])
 (.seq (.region 0 [⟨some 11, .mv (.c (.int .i64 1)), none⟩])
 (.seq (.region 0 [⟨some 50, .mv (.t 8), none⟩,
  ⟨some 51, .mv (.t 11), none⟩,
  ⟨some 52, .call false 92 [(.t 50), (.t 51)], none⟩,
  ⟨some 11, .mv (.t 52), none⟩])
 (.seq (.seq (.region 0 [⟨some 53, .mv (.t 11), none⟩,
  ⟨some 54, .bin .lss (.t 53) (.c (.int .i64 0)), none⟩])
 (.cond (.t 54) (.seq (.region 0 [⟨some 4, .mv (.c (.bool false)), none⟩])
 .ret) .skip))
 (.seq (.seq (.region 0 [⟨some 55, .mv (.t 11), none⟩,
  ⟨some 56, .mv (.t 10), none⟩,
  ⟨some 57, .bin .neq (.t 55) (.t 56), none⟩])
 (.cond (.t 57) (.seq (.region 0 [⟨some 4, .mv (.c (.bool false)), none⟩])
 .ret) .skip))
 (.seq (.region 0 [⟨some 58, .load true 1 (.t 2), none⟩,
  ⟨some 59, .call false 93 [(.t 58)], none⟩,
  ⟨some 60, .mv (.t 1), none⟩,
  ⟨some 61, .call false 94 [(.t 59), (.t 60)], none⟩,
  ⟨some 12, .mv (.t 61), none⟩])
 (.seq (.seq (.region 0 [⟨some 62, .mv (.t 12), none⟩,
  ⟨some 63, .mv (.t 6), none⟩,
  ⟨some 64, .call false 34 [(.t 62), (.t 63)], none⟩,
  ⟨some 65, .un .not (.t 64), none⟩])
 (.cond (.t 65) (.seq (.region 0 [⟨some 4, .mv (.c (.bool false)), none⟩])
 .ret) .skip))
 (.seq (.region 0 [⟨some 11, .mv (.c (.int .i64 1)), none⟩])
 (.seq (.region 0 [⟨some 66, .mv (.t 8), none⟩,
  ⟨some 67, .mv (.t 11), none⟩,
  ⟨some 68, .call false 92 [(.t 66), (.t 67)], none⟩,
  ⟨some 11, .mv (.t 68), none⟩])
 (.seq (.seq (.region 0 [⟨some 69, .mv (.t 11), none⟩,
  ⟨some 70, .bin .lss (.t 69) (.c (.int .i64 0)), none⟩])
 (.cond (.t 70) (.seq (.region 0 [⟨some 4, .mv (.c (.bool false)), none⟩])
 .ret) .skip))
 (.seq (.seq (.region 0 [⟨some 71, .mv (.t 11), none⟩,
  ⟨some 72, .mv (.t 10), none⟩,
  ⟨some 73, .bin .neq (.t 71) (.t 72), none⟩])
 (.cond (.t 73) (.seq (.region 0 [⟨some 4, .mv (.c (.bool false)), none⟩])
 .ret) .skip))
 (.seq (.region 0 [⟨some 4, .mv (.c (.bool true)), none⟩])
 .ret)))))))))))))))))))))))))

theorem laws_FnExactMarksAt_eq (E : Env) (a0 : U) (a1 : U) : run E laws_FnExactMarksAt_ac [(4, none)] [a0, a1] =
 U.noTup a0 fun x1 => U.asVar true 1 x1 fun e2 => (E 99 [e2, (.int .i64 1048576)]).bind fun t3 => (U.bin .lss t3 (.int .i64 0)).bind fun t4 => U.asBool t4
 (some (.bool true))
 (U.asVar true 1 x1 fun e5 => (E 93 [e5]).bind fun t6 => (E 98 [t6, a1]).bind fun t7 => U.asVar true 1 x1 fun e8 => (E 100093 [e8]).bind fun t9 => U.noTup t9 fun x10 => U.asAgg x10 fun us11 => (match us11 with
 | u12 :: us13 => (U.asSlK 1 u12 fun us14 => (match us13 with
 | [] => ((E 100094 [(.agg [(.sl 1 us14)]), a1]).bind fun t15 => U.noTup t15 fun x16 => U.asSlK 2 x16 fun us17 => (E 34 [(.sl 2 us17), t7]).bind fun t18 => U.asFlat t18 fun t19 => (U.un .not t19).bind fun t20 => U.asBool t20
 (some (.bool false))
 (U.asVar true 1 x1 fun e21 => (E 93 [e21]).bind fun t22 => (E 97 [(.agg [(.sl 1 us14)]), t22]).bind fun t23 => U.asFlat t23 fun t24 => (U.un .not t24).bind fun t25 => U.asBool t25
 (some (.bool false))
 ((E 200121 (.agg [.tup [.sl 1 us14]] :: [(.int .i64 1)])).bind fun t26 => U.asMut 1 t26 fun y27 ys28 => U.asFlat y27 fun y27 => if partable (.val y27) = true then (U.bin .lss y27 (.int .i64 0)).bind fun t29 => U.asBool t29
 (some (.bool false))
 ((E 34 [(.sl 2 us17), t7]).bind fun t30 => U.asFlat t30 fun t31 => (U.un .not t31).bind fun t32 => U.asBool t32
 (some (.bool false))
 ((E 200095 (.agg [.tup [.sl 2 us17]] :: [(.int .i64 1)])).bind fun t33 => U.asMut 2 t33 fun y34 ys35 => U.asFlat y34 fun y34 => (E 92 [(.sl 2 ys35), (.int .i64 1)]).bind fun t36 => U.asFlat t36 fun t37 => (U.bin .lss t37 (.int .i64 0)).bind fun t38 => U.asBool t38
 (some (.bool false))
 ((U.bin .neq t37 y34).bind fun t39 => U.asBool t39
 (some (.bool false))
 (U.asVar true 1 x1 fun e40 => (E 93 [e40]).bind fun t41 => (E 94 [t41, a1]).bind fun t42 => (E 34 [t42, t7]).bind fun t43 => (U.un .not t43).bind fun t44 => U.asBool t44
 (some (.bool false))
 ((E 92 [(.sl 2 ys35), (.int .i64 1)]).bind fun t45 => U.asFlat t45 fun t46 => (U.bin .lss t46 (.int .i64 0)).bind fun t47 => U.asBool t47
 (some (.bool false))
 ((U.bin .neq t46 y34).bind fun t48 => U.asBool t48
 (some (.bool false))
 (some (.bool true)))))))) else none)))
 | _ => none))
 | [] => none)) := by kernel_rfl

/-- In the environment E: this function and those that it calls. -/
structure G_laws_FnExactMarksAt (E : Env) : Prop where
  is : Is E 91 2 laws_FnExactMarksAt_ac [(4, none)]
  c_laws_szStore : G_laws_szStore E
  c_spec_MarksAt : G_spec_MarksAt E
  c_laws_toStore : G_laws_toStore E
  c_impl_MarksAt : G_impl_MarksAt E
  c_laws_eqReadMarkS : G_laws_eqReadMarkS E
  c_laws_eqStore : G_laws_eqStore E
  c_laws_heldReadMarkS : G_laws_heldReadMarkS E
  c_laws_toStore_F : G_laws_toStore_F E
  c_impl_MarksAt_F : G_impl_MarksAt_F E
  c_laws_markReadMarkS_M : G_laws_markReadMarkS_M E
  c_laws_markVersionSS_M : G_laws_markVersionSS_M E
theorem laws_FnExactMarksAt_E {E : Env} (h : G_laws_FnExactMarksAt E) (a0 a1 : U) : E 91 [a0, a1] =
 U.noTup a0 fun x1 => U.asVar true 1 x1 fun e2 => (E 99 [e2, (.int .i64 1048576)]).bind fun t3 => (U.bin .lss t3 (.int .i64 0)).bind fun t4 => U.asBool t4
 (some (.bool true))
 (U.asVar true 1 x1 fun e5 => (E 93 [e5]).bind fun t6 => (E 98 [t6, a1]).bind fun t7 => U.asVar true 1 x1 fun e8 => (E 100093 [e8]).bind fun t9 => U.noTup t9 fun x10 => U.asAgg x10 fun us11 => (match us11 with
 | u12 :: us13 => (U.asSlK 1 u12 fun us14 => (match us13 with
 | [] => ((E 100094 [(.agg [(.sl 1 us14)]), a1]).bind fun t15 => U.noTup t15 fun x16 => U.asSlK 2 x16 fun us17 => (E 34 [(.sl 2 us17), t7]).bind fun t18 => U.asFlat t18 fun t19 => (U.un .not t19).bind fun t20 => U.asBool t20
 (some (.bool false))
 (U.asVar true 1 x1 fun e21 => (E 93 [e21]).bind fun t22 => (E 97 [(.agg [(.sl 1 us14)]), t22]).bind fun t23 => U.asFlat t23 fun t24 => (U.un .not t24).bind fun t25 => U.asBool t25
 (some (.bool false))
 ((E 200121 (.agg [.tup [.sl 1 us14]] :: [(.int .i64 1)])).bind fun t26 => U.asMut 1 t26 fun y27 ys28 => U.asFlat y27 fun y27 => if partable (.val y27) = true then (U.bin .lss y27 (.int .i64 0)).bind fun t29 => U.asBool t29
 (some (.bool false))
 ((E 34 [(.sl 2 us17), t7]).bind fun t30 => U.asFlat t30 fun t31 => (U.un .not t31).bind fun t32 => U.asBool t32
 (some (.bool false))
 ((E 200095 (.agg [.tup [.sl 2 us17]] :: [(.int .i64 1)])).bind fun t33 => U.asMut 2 t33 fun y34 ys35 => U.asFlat y34 fun y34 => (E 92 [(.sl 2 ys35), (.int .i64 1)]).bind fun t36 => U.asFlat t36 fun t37 => (U.bin .lss t37 (.int .i64 0)).bind fun t38 => U.asBool t38
 (some (.bool false))
 ((U.bin .neq t37 y34).bind fun t39 => U.asBool t39
 (some (.bool false))
 (U.asVar true 1 x1 fun e40 => (E 93 [e40]).bind fun t41 => (E 94 [t41, a1]).bind fun t42 => (E 34 [t42, t7]).bind fun t43 => (U.un .not t43).bind fun t44 => U.asBool t44
 (some (.bool false))
 ((E 92 [(.sl 2 ys35), (.int .i64 1)]).bind fun t45 => U.asFlat t45 fun t46 => (U.bin .lss t46 (.int .i64 0)).bind fun t47 => U.asBool t47
 (some (.bool false))
 ((U.bin .neq t46 y34).bind fun t48 => U.asBool t48
 (some (.bool false))
 (some (.bool true)))))))) else none)))
 | _ => none))
 | [] => none)) := (h.is _ rfl).trans ((runQ_V rfl).trans (laws_FnExactMarksAt_eq E a0 a1))

end Go.Proofs.Ytmebdbagcbgddaa.Am
namespace Go.Proofs.Ytmebdbagcbgddaa.Am
open Go
set_option linter.unusedVariables false
set_option maxRecDepth 100000

/- loop.example/g01924/laws.szEdgeS -/
def laws_szEdgeS_ac : AC :=
 (.seq (.region 0 [⟨some 4, .mv (.c (.int .i64 0)), none⟩])
 (.seq (.region 0 [⟨some 5, .mv (.t 1), none⟩,
  ⟨some 6, .mv (.t 0), none⟩,
  ⟨some 7, .len false (.t 6), none⟩,
  ⟨some 8, .bin .sub (.t 5) (.t 7), none⟩,
  ⟨some 1, .mv (.t 8), none⟩])
 (.seq (.seq (.region 0 [⟨some 9, .mv (.t 1), none⟩,
  ⟨some 10, .bin .lss (.t 9) (.c (.int .i64 0)), none⟩])
 (.cond (.t 10) (.seq (.region 0 [⟨some 4, .mv (.c (.int .i64 (-1))), none⟩])
 .ret) .skip))
 (.seq (.region 0 [⟨some 11, .mv (.t 1), none⟩,
  ⟨some 4, .mv (.t 11), none⟩])
 .ret))))

theorem laws_szEdgeS_eq (E : Env) (a0 : U) (a1 : U) : run E laws_szEdgeS_ac [(4, none)] [a0, a1] =
 (U.lenOf false a0).bind fun n1 => (U.bin .sub a1 (.int .i64 (n1 : Int))).bind fun t2 => (U.bin .lss t2 (.int .i64 0)).bind fun t3 => U.asBool t3
 (some (.int .i64 (-1)))
 (some t2) := by kernel_rfl

/-- In the environment E: this function and those that it calls. -/
structure G_laws_szEdgeS (E : Env) : Prop where
  is : Is E 5 2 laws_szEdgeS_ac [(4, none)]
theorem laws_szEdgeS_E {E : Env} (h : G_laws_szEdgeS E) (a0 a1 : U) : E 5 [a0, a1] =
 (U.lenOf false a0).bind fun n1 => (U.bin .sub a1 (.int .i64 (n1 : Int))).bind fun t2 => (U.bin .lss t2 (.int .i64 0)).bind fun t3 => U.asBool t3
 (some (.int .i64 (-1)))
 (some t2) := (h.is _ rfl).trans ((runQ_V rfl).trans (laws_szEdgeS_eq E a0 a1))

end Go.Proofs.Ytmebdbagcbgddaa.Am
namespace Go.Proofs.Ytmebdbagcbgddaa.Am
open Go
set_option linter.unusedVariables false
set_option maxRecDepth 100000

/- loop.example/g01924/spec.l19Less -/
def spec_l19Less_ac : AC :=
 (.seq (.region 0 [⟨some 2, .box false 2 (.t 0), none⟩,
  ⟨some 3, .box false 3 (.t 1), none⟩,
  ⟨some 4, .mv (.c (.bool false)), none⟩])
 (.seq (.seq (.region 0 [⟨some 5, .faddr 0 0 (.t 2), none⟩,
  ⟨some 6, .load false 1 (.t 5), none⟩,
  ⟨some 7, .faddr 0 0 (.t 3), none⟩,
  ⟨some 8, .load false 1 (.t 7), none⟩,
  ⟨some 9, .bin .neq (.t 6) (.t 8), none⟩])
 (.cond (.t 9) (.seq (.region 0 [⟨some 10, .faddr 0 0 (.t 2), none⟩,
  ⟨some 11, .load false 1 (.t 10), none⟩,
  ⟨some 12, .faddr 0 0 (.t 3), none⟩,
  ⟨some 13, .load false 1 (.t 12), none⟩,
  ⟨some 14, .bin .lss (.t 11) (.t 13), none⟩,
  ⟨some 4, .mv (.t 14), none⟩])
 .ret) .skip))
 (.seq (.seq (.region 0 [⟨some 15, .faddr 1 1 (.t 2), none⟩,
  ⟨some 16, .load false 1 (.t 15), none⟩,
  ⟨some 17, .faddr 1 1 (.t 3), none⟩,
  ⟨some 18, .load false 1 (.t 17), none⟩,
  ⟨some 19, .bin .neq (.t 16) (.t 18), none⟩])
 (.cond (.t 19) (.seq (.region 0 [⟨some 20, .faddr 1 1 (.t 2), none⟩,
  ⟨some 21, .load false 1 (.t 20), none⟩,
  ⟨some 22, .faddr 1 1 (.t 3), none⟩,
  ⟨some 23, .load false 1 (.t 22), none⟩,
  ⟨some 24, .bin .lss (.t 21) (.t 23), none⟩,
  ⟨some 4, .mv (.t 24), none⟩])
 .ret) .skip))
 (.seq (.seq (.region 0 [⟨some 25, .faddr 2 2 (.t 2), none⟩,
  ⟨some 26, .load false 1 (.t 25), none⟩,
  ⟨some 27, .faddr 2 2 (.t 3), none⟩,
  ⟨some 28, .load false 1 (.t 27), none⟩,
  ⟨some 29, .bin .neq (.t 26) (.t 28), none⟩])
 (.cond (.t 29) (.seq (.region 0 [⟨some 30, .faddr 2 2 (.t 2), none⟩,
  ⟨some 31, .load false 1 (.t 30), none⟩,
  ⟨some 32, .faddr 2 2 (.t 3), none⟩,
  ⟨some 33, .load false 1 (.t 32), none⟩,
  ⟨some 34, .bin .lss (.t 31) (.t 33), none⟩,
  ⟨some 4, .mv (.t 34), none⟩])
 .ret) .skip))
 (.seq (.region 0 [⟨some 35, .faddr 3 3 (.t 2), none⟩,
  ⟨some 36, .load false 1 (.t 35), none⟩,
  ⟨some 37, .faddr 3 3 (.t 3), none⟩,
  ⟨some 38, .load false 1 (.t 37), none⟩,
  ⟨some 39, .bin .lss (.t 36) (.t 38), none⟩,
  ⟨some 4, .mv (.t 39), none⟩])
 .ret)))))

theorem spec_l19Less_eq (E : Env) (a0 : U) (a1 : U) : run E spec_l19Less_ac [(4, none)] [a0, a1] =
 U.noTup a0 fun x1 => U.noTup a1 fun x2 => U.asAgg x1 fun us3 => if 0 = sizes (us3.take 0) then (us3[0]?).bind fun e4 => U.asVar false 1 e4 fun e5 => U.asAgg x2 fun us6 => if 0 = sizes (us6.take 0) then (us6[0]?).bind fun e7 => U.asVar false 1 e7 fun e8 => (U.bin .neq e5 e8).bind fun t9 => U.asBool t9
 (U.asAgg x1 fun us10 => if 0 = sizes (us10.take 0) then (us10[0]?).bind fun e11 => U.asVar false 1 e11 fun e12 => U.asAgg x2 fun us13 => if 0 = sizes (us13.take 0) then (us13[0]?).bind fun e14 => U.asVar false 1 e14 fun e15 => (U.bin .lss e12 e15).bind fun t16 => some t16 else none else none)
 (U.asAgg x1 fun us17 => if 1 = sizes (us17.take 1) then (us17[1]?).bind fun e18 => U.asVar false 1 e18 fun e19 => U.asAgg x2 fun us20 => if 1 = sizes (us20.take 1) then (us20[1]?).bind fun e21 => U.asVar false 1 e21 fun e22 => (U.bin .neq e19 e22).bind fun t23 => U.asBool t23
 (U.asAgg x1 fun us24 => if 1 = sizes (us24.take 1) then (us24[1]?).bind fun e25 => U.asVar false 1 e25 fun e26 => U.asAgg x2 fun us27 => if 1 = sizes (us27.take 1) then (us27[1]?).bind fun e28 => U.asVar false 1 e28 fun e29 => (U.bin .lss e26 e29).bind fun t30 => some t30 else none else none)
 (U.asAgg x1 fun us31 => if 2 = sizes (us31.take 2) then (us31[2]?).bind fun e32 => U.asVar false 1 e32 fun e33 => U.asAgg x2 fun us34 => if 2 = sizes (us34.take 2) then (us34[2]?).bind fun e35 => U.asVar false 1 e35 fun e36 => (U.bin .neq e33 e36).bind fun t37 => U.asBool t37
 (U.asAgg x1 fun us38 => if 2 = sizes (us38.take 2) then (us38[2]?).bind fun e39 => U.asVar false 1 e39 fun e40 => U.asAgg x2 fun us41 => if 2 = sizes (us41.take 2) then (us41[2]?).bind fun e42 => U.asVar false 1 e42 fun e43 => (U.bin .lss e40 e43).bind fun t44 => some t44 else none else none)
 (U.asAgg x1 fun us45 => if 3 = sizes (us45.take 3) then (us45[3]?).bind fun e46 => U.asVar false 1 e46 fun e47 => U.asAgg x2 fun us48 => if 3 = sizes (us48.take 3) then (us48[3]?).bind fun e49 => U.asVar false 1 e49 fun e50 => (U.bin .lss e47 e50).bind fun t51 => some t51 else none else none) else none else none) else none else none) else none else none := by kernel_rfl

/-- In the environment E: this function and those that it calls. -/
structure G_spec_l19Less (E : Env) : Prop where
  is : Is E 7 2 spec_l19Less_ac [(4, none)]
theorem spec_l19Less_E {E : Env} (h : G_spec_l19Less E) (a0 a1 : U) : E 7 [a0, a1] =
 U.noTup a0 fun x1 => U.noTup a1 fun x2 => U.asAgg x1 fun us3 => if 0 = sizes (us3.take 0) then (us3[0]?).bind fun e4 => U.asVar false 1 e4 fun e5 => U.asAgg x2 fun us6 => if 0 = sizes (us6.take 0) then (us6[0]?).bind fun e7 => U.asVar false 1 e7 fun e8 => (U.bin .neq e5 e8).bind fun t9 => U.asBool t9
 (U.asAgg x1 fun us10 => if 0 = sizes (us10.take 0) then (us10[0]?).bind fun e11 => U.asVar false 1 e11 fun e12 => U.asAgg x2 fun us13 => if 0 = sizes (us13.take 0) then (us13[0]?).bind fun e14 => U.asVar false 1 e14 fun e15 => (U.bin .lss e12 e15).bind fun t16 => some t16 else none else none)
 (U.asAgg x1 fun us17 => if 1 = sizes (us17.take 1) then (us17[1]?).bind fun e18 => U.asVar false 1 e18 fun e19 => U.asAgg x2 fun us20 => if 1 = sizes (us20.take 1) then (us20[1]?).bind fun e21 => U.asVar false 1 e21 fun e22 => (U.bin .neq e19 e22).bind fun t23 => U.asBool t23
 (U.asAgg x1 fun us24 => if 1 = sizes (us24.take 1) then (us24[1]?).bind fun e25 => U.asVar false 1 e25 fun e26 => U.asAgg x2 fun us27 => if 1 = sizes (us27.take 1) then (us27[1]?).bind fun e28 => U.asVar false 1 e28 fun e29 => (U.bin .lss e26 e29).bind fun t30 => some t30 else none else none)
 (U.asAgg x1 fun us31 => if 2 = sizes (us31.take 2) then (us31[2]?).bind fun e32 => U.asVar false 1 e32 fun e33 => U.asAgg x2 fun us34 => if 2 = sizes (us34.take 2) then (us34[2]?).bind fun e35 => U.asVar false 1 e35 fun e36 => (U.bin .neq e33 e36).bind fun t37 => U.asBool t37
 (U.asAgg x1 fun us38 => if 2 = sizes (us38.take 2) then (us38[2]?).bind fun e39 => U.asVar false 1 e39 fun e40 => U.asAgg x2 fun us41 => if 2 = sizes (us41.take 2) then (us41[2]?).bind fun e42 => U.asVar false 1 e42 fun e43 => (U.bin .lss e40 e43).bind fun t44 => some t44 else none else none)
 (U.asAgg x1 fun us45 => if 3 = sizes (us45.take 3) then (us45[3]?).bind fun e46 => U.asVar false 1 e46 fun e47 => U.asAgg x2 fun us48 => if 3 = sizes (us48.take 3) then (us48[3]?).bind fun e49 => U.asVar false 1 e49 fun e50 => (U.bin .lss e47 e50).bind fun t51 => some t51 else none else none) else none else none) else none else none) else none else none := (h.is _ rfl).trans ((runQ_V rfl).trans (spec_l19Less_eq E a0 a1))

end Go.Proofs.Ytmebdbagcbgddaa.Am
namespace Go.Proofs.Ytmebdbagcbgddaa.Am
open Go
set_option linter.unusedVariables false
set_option maxRecDepth 100000

/- loop.example/g01924/spec.AreEdges -/
def spec_AreEdges_b0 : AC :=
 (.seq (.seq (.region 0 [⟨some 4, .mv (.t 3), none⟩,
  ⟨some 5, .mv (.t 0), none⟩,
  ⟨some 6, .len false (.t 5), none⟩,
  ⟨some 7, .bin .lss (.t 4) (.t 6), none⟩])
 (.cond (.t 7) .skip (.exit 0)))
 (.seq (.block 1 (.seq (.region 64 [⟨some 10, .mv (.t 0), none⟩,
  ⟨some 11, .mv (.t 3), none⟩,
  ⟨some 12, .iaddr 4 (.t 10) (.t 11), none⟩,
  ⟨some 13, .faddr 0 0 (.t 12), none⟩,
  ⟨some 14, .load false 1 (.t 13), none⟩,
  ⟨some 15, .call false 6 [(.t 14), (.c (.int .i64 1)), (.c (.int .i64 9))], none⟩,
  ⟨some 16, .un .not (.t 15), none⟩,
  ⟨some 17, .mv (.t 16), none⟩,
  ⟨some 18, .mv (.t 0), some (17, false)⟩,
  ⟨some 19, .mv (.t 3), some (17, false)⟩,
  ⟨some 20, .iaddr 4 (.t 18) (.t 19), some (17, false)⟩,
  ⟨some 21, .faddr 1 1 (.t 20), some (17, false)⟩,
  ⟨some 22, .load false 1 (.t 21), some (17, false)⟩,
  ⟨some 23, .call false 6 [(.t 22), (.c (.int .i64 1)), (.c (.int .i64 9))], some (17, false)⟩,
  ⟨some 24, .un .not (.t 23), some (17, false)⟩,
  ⟨some 25, .pick (.t 17) (.c (.bool true)) (.t 24), none⟩,
  ⟨some 26, .mv (.t 25), none⟩,
  ⟨some 27, .mv (.t 0), some (26, false)⟩,
  ⟨some 28, .mv (.t 3), some (26, false)⟩,
  ⟨some 29, .iaddr 4 (.t 27) (.t 28), some (26, false)⟩,
  ⟨some 30, .faddr 0 0 (.t 29), some (26, false)⟩,
  ⟨some 31, .load false 1 (.t 30), some (26, false)⟩,
  ⟨some 32, .mv (.t 0), some (26, false)⟩,
  ⟨some 33, .mv (.t 3), some (26, false)⟩,
  ⟨some 34, .iaddr 4 (.t 32) (.t 33), some (26, false)⟩,
  ⟨some 35, .faddr 1 1 (.t 34), some (26, false)⟩,
  ⟨some 36, .load false 1 (.t 35), some (26, false)⟩,
  ⟨some 37, .bin .eql (.t 31) (.t 36), some (26, false)⟩,
  ⟨some 38, .pick (.t 26) (.c (.bool true)) (.t 37), none⟩,
  ⟨some 39, .mv (.t 38), none⟩,
  ⟨some 40, .mv (.t 0), some (39, false)⟩,
  ⟨some 41, .mv (.t 3), some (39, false)⟩,
  ⟨some 42, .iaddr 4 (.t 40) (.t 41), some (39, false)⟩,
  ⟨some 43, .faddr 2 2 (.t 42), some (39, false)⟩,
  ⟨some 44, .load false 1 (.t 43), some (39, false)⟩,
  ⟨some 45, .call false 6 [(.t 44), (.c (.int .i64 1)), (.c (.int .i64 3))], some (39, false)⟩,
  ⟨some 46, .un .not (.t 45), some (39, false)⟩,
  ⟨some 47, .pick (.t 39) (.c (.bool true)) (.t 46), none⟩,
  ⟨some 48, .mv (.t 47), none⟩,
  ⟨some 49, .mv (.t 0), some (48, false)⟩,
  ⟨some 50, .mv (.t 3), some (48, false)⟩,
  ⟨some 51, .iaddr 4 (.t 49) (.t 50), some (48, false)⟩,
  ⟨some 52, .faddr 3 3 (.t 51), some (48, false)⟩,
  ⟨some 53, .load false 1 (.t 52), some (48, false)⟩,
  ⟨some 54, .call false 6 [(.t 53), (.c (.int .i64 0)), (.c (.int .i64 5))], some (48, false)⟩,
  ⟨some 55, .un .not (.t 54), some (48, false)⟩,
  ⟨some 56, .pick (.t 48) (.c (.bool true)) (.t 55), none⟩,
  ⟨some 57, .mv (.t 56), none⟩,
  ⟨some 58, .mv (.t 3), some (57, false)⟩,
  ⟨some 59, .bin .gtr (.t 58) (.c (.int .i64 0)), some (57, false)⟩,
  ⟨some 60, .mv (.t 59), some (57, false)⟩,
  ⟨some 61, .mv (.t 0), some (60, true)⟩,
  ⟨some 62, .mv (.t 3), some (60, true)⟩,
  ⟨some 63, .bin .sub (.t 62) (.c (.int .i64 1)), some (60, true)⟩,
  ⟨some 64, .iaddr 4 (.t 61) (.t 63), some (60, true)⟩,
  ⟨some 65, .load true 4 (.t 64), some (60, true)⟩,
  ⟨some 66, .mv (.t 0), some (60, true)⟩,
  ⟨some 67, .mv (.t 3), some (60, true)⟩,
  ⟨some 68, .iaddr 4 (.t 66) (.t 67), some (60, true)⟩,
  ⟨some 69, .load true 4 (.t 68), some (60, true)⟩,
  ⟨some 70, .call false 7 [(.t 65), (.t 69)], some (60, true)⟩,
  ⟨some 71, .un .not (.t 70), some (60, true)⟩,
  ⟨some 72, .pick (.t 60) (.t 71) (.c (.bool false)), some (57, false)⟩,
  ⟨some 73, .pick (.t 57) (.c (.bool true)) (.t 72), none⟩])
 (.cond (.t 73) (.seq (.region 0 [⟨some 2, .mv (.c (.bool false)), none⟩])
 .ret) .skip)))
 (.region 0 [⟨some 8, .mv (.t 3), none⟩,
  ⟨some 9, .bin .add (.t 8) (.c (.int .i64 1)), none⟩,
  ⟨some 3, .mv (.t 9), none⟩])))
def spec_AreEdges_r0 : AC :=
 (.seq (.region 0 [⟨some 2, .mv (.c (.bool true)), none⟩])
 .ret)
def spec_AreEdges_ac : AC :=
 (.seq (.region 0 [⟨some 2, .mv (.c (.bool false)), none⟩])
 (.seq (.seq (.region 0 [⟨some 3, .mv (.c (.int .i64 0)), none⟩])
 (.block 0 (.loop ⟨[0, 3], [], []⟩ spec_AreEdges_b0)))
 spec_AreEdges_r0))
noncomputable def spec_AreEdges_l0 (E : Env) (x0 : U) (x3 : U) : Option U := loopK (roundOf E ⟨[0, 3], [], []⟩ spec_AreEdges_b0 (blockK 0 (seqK (fun s => exec E spec_AreEdges_r0 s (finish [(2, none)])) (finish [(2, none)])))) ([.val x0, .val x3], [])
theorem spec_AreEdges_eq (E : Env) (a0 : U) : run E spec_AreEdges_ac [(2, none)] [a0] =
 spec_AreEdges_l0 E a0 (.int .i64 0) := by kernel_rfl
theorem spec_AreEdges_l0_eq (E : Env) (x0 : U) (x3 : U) : spec_AreEdges_l0 E x0 x3 =
 (U.lenOf false x0).bind fun n1 => (U.bin .lss x3 (.int .i64 (n1 : Int))).bind fun t2 => U.asBool t2
 (U.asInt x3 fun n3 => U.elemAt 4 x0 n3 fun e4 => U.fieldAt 0 0 e4 fun f5 => U.asVar false 1 f5 fun e6 => (E 6 [e6, (.int .i64 1), (.int .i64 9)]).bind fun t7 => (U.un .not t7).bind fun t8 => U.asBool t8
 (some (.bool false))
 (U.asInt x3 fun n9 => U.elemAt 4 x0 n9 fun e10 => U.fieldAt 1 1 e10 fun f11 => U.asVar false 1 f11 fun e12 => (E 6 [e12, (.int .i64 1), (.int .i64 9)]).bind fun t13 => (U.un .not t13).bind fun t14 => U.asBool t14
 (some (.bool false))
 (U.asInt x3 fun n15 => U.elemAt 4 x0 n15 fun e16 => U.fieldAt 0 0 e16 fun f17 => U.asVar false 1 f17 fun e18 => U.asInt x3 fun n19 => U.elemAt 4 x0 n19 fun e20 => U.fieldAt 1 1 e20 fun f21 => U.asVar false 1 f21 fun e22 => (U.bin .eql e18 e22).bind fun t23 => U.asBool t23
 (some (.bool false))
 (U.asInt x3 fun n24 => U.elemAt 4 x0 n24 fun e25 => U.fieldAt 2 2 e25 fun f26 => U.asVar false 1 f26 fun e27 => (E 6 [e27, (.int .i64 1), (.int .i64 3)]).bind fun t28 => (U.un .not t28).bind fun t29 => U.asBool t29
 (some (.bool false))
 (U.asInt x3 fun n30 => U.elemAt 4 x0 n30 fun e31 => U.fieldAt 3 3 e31 fun f32 => U.asVar false 1 f32 fun e33 => (E 6 [e33, (.int .i64 0), (.int .i64 5)]).bind fun t34 => (U.un .not t34).bind fun t35 => U.asBool t35
 (some (.bool false))
 ((U.bin .gtr x3 (.int .i64 0)).bind fun t36 => U.asBool t36
 ((U.bin .sub x3 (.int .i64 1)).bind fun t37 => U.asInt t37 fun n38 => U.elemAt 4 x0 n38 fun e39 => U.asVar true 4 e39 fun e40 => U.asInt x3 fun n41 => U.elemAt 4 x0 n41 fun e42 => U.asVar true 4 e42 fun e43 => (E 7 [e40, e43]).bind fun t44 => (U.un .not t44).bind fun t45 => U.asBool t45
 (some (.bool false))
 ((U.bin .add x3 (.int .i64 1)).bind fun t46 => spec_AreEdges_l0 E x0 t46))
 ((U.bin .add x3 (.int .i64 1)).bind fun t47 => spec_AreEdges_l0 E x0 t47)))))))
 (some (.bool true)) :=
 (loop_eq E _ _ _ _).trans (by kernel_rfl)

/-- In the environment E: this function and those that it calls. -/
structure G_spec_AreEdges (E : Env) : Prop where
  is : Is E 4 1 spec_AreEdges_ac [(2, none)]
  c_spec_l1In : G_spec_l1In E
  c_spec_l19Less : G_spec_l19Less E
theorem spec_AreEdges_E {E : Env} (h : G_spec_AreEdges E) (a0 : U) : E 4 [a0] =
 spec_AreEdges_l0 E a0 (.int .i64 0) := (h.is _ rfl).trans ((runQ_V rfl).trans (spec_AreEdges_eq E a0))

end Go.Proofs.Ytmebdbagcbgddaa.Am
namespace Go.Proofs.Ytmebdbagcbgddaa.Am
open Go
set_option linter.unusedVariables false
set_option maxRecDepth 100000

/- loop.example/g01924/laws.toEdge -/
def laws_toEdge_ac : AC :=
 (.seq (.region 0 [⟨some 1, .box false 1 (.t 0), none⟩,
  ⟨some 2, .alloc 2 (.agg [(.int .i64 0), (.int .i64 0), (.int .i64 0), (.int .i64 0)]), none⟩])
 (.seq (.region 0 [⟨some 3, .alloc 3 (.agg [(.int .i64 0), (.int .i64 0), (.int .i64 0), (.int .i64 0)]), none⟩])
 (.seq (.region 0 [⟨some 4, .faddr 0 0 (.t 1), none⟩,
  ⟨some 5, .load false 1 (.t 4), none⟩,
  ⟨some 6, .faddr 0 0 (.t 3), none⟩,
  ⟨none, .store 1 (.t 6) (.t 5), none⟩])
 (.seq (.region 0 [⟨some 7, .faddr 1 1 (.t 1), none⟩,
  ⟨some 8, .load false 1 (.t 7), none⟩,
  ⟨some 9, .faddr 1 1 (.t 3), none⟩,
  ⟨none, .store 1 (.t 9) (.t 8), none⟩])
 (.seq (.region 0 [⟨some 10, .faddr 2 2 (.t 1), none⟩,
  ⟨some 11, .load false 1 (.t 10), none⟩,
  ⟨some 12, .faddr 2 2 (.t 3), none⟩,
  ⟨none, .store 1 (.t 12) (.t 11), none⟩])
 (.seq (.region 0 [⟨some 13, .faddr 3 3 (.t 1), none⟩,
  ⟨some 14, .load false 1 (.t 13), none⟩,
  ⟨some 15, .faddr 3 3 (.t 3), none⟩,
  ⟨none, .store 1 (.t 15) (.t 14), none⟩])
 (.seq (.region 0 [⟨some 16, .load true 4 (.t 3), none⟩,
  ⟨none, .store 4 (.t 2) (.t 16), none⟩])
 .ret)))))))

theorem laws_toEdge_eq (E : Env) (a0 : U) : run E laws_toEdge_ac [(2, some (true, 4))] [a0] =
 U.noTup a0 fun x1 => U.asAgg x1 fun us2 => if 0 = sizes (us2.take 0) then (us2[0]?).bind fun e3 => U.asVar false 1 e3 fun e4 => if storable (.val e4) = true ∧ e4.size = 1 then U.asAgg x1 fun us5 => if 1 = sizes (us5.take 1) then (us5[1]?).bind fun e6 => U.asVar false 1 e6 fun e7 => if storable (.val e7) = true ∧ e7.size = 1 then if 1 = sizes [e4] then U.asAgg x1 fun us8 => if 2 = sizes (us8.take 2) then (us8[2]?).bind fun e9 => U.asVar false 1 e9 fun e10 => if storable (.val e10) = true ∧ e10.size = 1 then if 2 = sizes [e4, e7] then U.asAgg x1 fun us11 => if 3 = sizes (us11.take 3) then (us11[3]?).bind fun e12 => U.asVar false 1 e12 fun e13 => if storable (.val e13) = true ∧ e13.size = 1 then if 3 = sizes [e4, e7, e10] then U.asVar true 4 (.agg [e4, e7, e10, e13]) fun e14 => if storable (.val e14) = true ∧ e14.size = 4 then U.asVar true 4 e14 fun e15 => some e15 else none else none else none else none else none else none else none else none else none else none else none else none := by kernel_rfl

/-- In the environment E: this function and those that it calls. -/
structure G_laws_toEdge (E : Env) : Prop where
  is : Is E 8 1 laws_toEdge_ac [(2, some (true, 4))]
theorem laws_toEdge_E {E : Env} (h : G_laws_toEdge E) (a0 : U) : E 8 [a0] =
 U.noTup a0 fun x1 => U.asAgg x1 fun us2 => if 0 = sizes (us2.take 0) then (us2[0]?).bind fun e3 => U.asVar false 1 e3 fun e4 => if storable (.val e4) = true ∧ e4.size = 1 then U.asAgg x1 fun us5 => if 1 = sizes (us5.take 1) then (us5[1]?).bind fun e6 => U.asVar false 1 e6 fun e7 => if storable (.val e7) = true ∧ e7.size = 1 then if 1 = sizes [e4] then U.asAgg x1 fun us8 => if 2 = sizes (us8.take 2) then (us8[2]?).bind fun e9 => U.asVar false 1 e9 fun e10 => if storable (.val e10) = true ∧ e10.size = 1 then if 2 = sizes [e4, e7] then U.asAgg x1 fun us11 => if 3 = sizes (us11.take 3) then (us11[3]?).bind fun e12 => U.asVar false 1 e12 fun e13 => if storable (.val e13) = true ∧ e13.size = 1 then if 3 = sizes [e4, e7, e10] then U.asVar true 4 (.agg [e4, e7, e10, e13]) fun e14 => if storable (.val e14) = true ∧ e14.size = 4 then U.asVar true 4 e14 fun e15 => some e15 else none else none else none else none else none else none else none else none else none else none else none else none := (h.is _ rfl).trans ((runQ_V rfl).trans (laws_toEdge_eq E a0))

end Go.Proofs.Ytmebdbagcbgddaa.Am
namespace Go.Proofs.Ytmebdbagcbgddaa.Am
open Go
set_option linter.unusedVariables false
set_option maxRecDepth 100000

/- loop.example/g01924/laws.toEdgeS -/
def laws_toEdgeS_b0 : AC :=
 (.seq (.seq (.region 0 [⟨some 8, .mv (.t 4), none⟩,
  ⟨some 9, .mv (.t 0), none⟩,
  ⟨some 10, .len false (.t 9), none⟩,
  ⟨some 11, .bin .lss (.t 8) (.t 10), none⟩])
 (.cond (.t 11) .skip (.exit 0)))
 (.seq (.block 1 (.region 0 [⟨some 14, .mv (.t 3), none⟩,
  ⟨some 15, .mv (.t 4), none⟩,
  ⟨some 16, .mv (.t 0), none⟩,
  ⟨some 17, .mv (.t 4), none⟩,
  ⟨some 18, .iaddr 4 (.t 16) (.t 17), none⟩,
  ⟨some 19, .load true 4 (.t 18), none⟩,
  ⟨some 20, .call false 8 [(.t 19)], none⟩,
  ⟨some 21, .iaddr 4 (.t 14) (.t 15), none⟩,
  ⟨none, .store 4 (.t 21) (.t 20), none⟩]))
 (.region 0 [⟨some 12, .mv (.t 4), none⟩,
  ⟨some 13, .bin .add (.t 12) (.c (.int .i64 1)), none⟩,
  ⟨some 4, .mv (.t 13), none⟩])))
def laws_toEdgeS_r0 : AC :=
 (.seq (.region 0 [⟨some 22, .mv (.t 3), none⟩,
  ⟨some 2, .mv (.t 22), none⟩])
 .ret)
def laws_toEdgeS_ac : AC :=
 (.seq (.region 0 [⟨some 2, .mv (.c (.nsl 4)), none⟩])
 (.seq (.region 0 [⟨some 5, .mv (.t 0), none⟩,
  ⟨some 6, .len false (.t 5), none⟩,
  ⟨some 7, .mkslice 7 4 32 (.agg [(.int .i64 0), (.int .i64 0), (.int .i64 0), (.int .i64 0)]) (.t 6) (.t 6), none⟩,
  ⟨some 3, .mv (.t 7), none⟩])
 (.seq (.seq (.region 0 [⟨some 4, .mv (.c (.int .i64 0)), none⟩])
 (.block 0 (.loop ⟨[0, 4], [(3, 4, false)], []⟩ laws_toEdgeS_b0)))
 laws_toEdgeS_r0)))
noncomputable def laws_toEdgeS_l0 (E : Env) (x0 : U) (x4 : U) (c3 : List U) : Option U := loopK (roundOf E ⟨[0, 4], [(3, 4, false)], []⟩ laws_toEdgeS_b0 (blockK 0 (seqK (fun s => exec E laws_toEdgeS_r0 s (finish [(2, none)])) (finish [(2, none)])))) ([.val x0, .val x4], [.vir (.asl 4 c3)])
theorem laws_toEdgeS_eq (E : Env) (a0 : U) : run E laws_toEdgeS_ac [(2, none)] [a0] =
 (U.lenOf false a0).bind fun n1 => if 0 ≤ (n1 : Int) ∧ (n1 : Int) ≤ (n1 : Int) ∧ (n1 : Int) * 32 ≤ 140737488355328 ∧ ((.agg [(.int .i64 0), (.int .i64 0), (.int .i64 0), (.int .i64 0)]) : U).size = 4 then laws_toEdgeS_l0 E a0 (.int .i64 0) (List.replicate ((n1 : Int) : Int).toNat (.agg [(.int .i64 0), (.int .i64 0), (.int .i64 0), (.int .i64 0)])) else none := by kernel_rfl
theorem laws_toEdgeS_l0_eq (E : Env) (x0 : U) (x4 : U) (c3 : List U) : laws_toEdgeS_l0 E x0 x4 c3 =
 (U.lenOf false x0).bind fun n2 => (U.bin .lss x4 (.int .i64 (n2 : Int))).bind fun t3 => U.asBool t3
 (U.asInt x4 fun n4 => U.elemAt 4 x0 n4 fun e5 => U.asVar true 4 e5 fun e6 => (E 8 [e6]).bind fun t7 => U.asInt x4 fun n8 => if 4 = 4 ∧ 0 ≤ n8 ∧ n8 < ((c3).length : Int) then if storable (.val t7) = true ∧ t7.size = 4 then (c3[(n8 : Int).toNat]?).bind fun e9 => if e9.size = 4 then (U.bin .add x4 (.int .i64 1)).bind fun t10 => laws_toEdgeS_l0 E x0 t10 (c3.set (n8 : Int).toNat t7) else none else none else none)
 (some (.sl 4 c3)) :=
 (loop_eq E _ _ _ _).trans (by kernel_rfl)

/-- In the environment E: this function and those that it calls. -/
structure G_laws_toEdgeS (E : Env) : Prop where
  is : Is E 1 1 laws_toEdgeS_ac [(2, none)]
  c_laws_toEdge : G_laws_toEdge E
theorem laws_toEdgeS_E {E : Env} (h : G_laws_toEdgeS E) (a0 : U) : E 1 [a0] =
 (U.lenOf false a0).bind fun n1 => if 0 ≤ (n1 : Int) ∧ (n1 : Int) ≤ (n1 : Int) ∧ (n1 : Int) * 32 ≤ 140737488355328 ∧ ((.agg [(.int .i64 0), (.int .i64 0), (.int .i64 0), (.int .i64 0)]) : U).size = 4 then laws_toEdgeS_l0 E a0 (.int .i64 0) (List.replicate ((n1 : Int) : Int).toNat (.agg [(.int .i64 0), (.int .i64 0), (.int .i64 0), (.int .i64 0)])) else none := (h.is _ rfl).trans ((runQ_V rfl).trans (laws_toEdgeS_eq E a0))

end Go.Proofs.Ytmebdbagcbgddaa.Am
namespace Go.Proofs.Ytmebdbagcbgddaa.Am
open Go
set_option linter.unusedVariables false
set_option maxRecDepth 100000

/- cmp.Or[int] -/
def cmp_Or_g14_b0 : AC :=
 (.seq (.region 0 [⟨some 9, .bin .lss (.t 8) (.t 7), none⟩])
 (.seq (.cond (.t 9) .skip (.exit 0))
 (.seq (.block 1 (.seq (.region 0 [⟨some 10, .iaddr 1 (.t 6) (.t 8), none⟩,
  ⟨some 11, .load false 1 (.t 10), none⟩,
  ⟨some 5, .mv (.t 11), none⟩])
 (.seq (.region 0 [⟨some 12, .mv (.t 5), none⟩,
  ⟨some 13, .mv (.t 3), none⟩,
  ⟨some 14, .bin .neq (.t 12) (.t 13), none⟩])
 (.cond (.t 14) (.seq (.region 0 [⟨some 15, .mv (.t 5), none⟩,
  ⟨some 2, .mv (.t 15), none⟩])
 .ret) .skip))))
 (.region 0 [⟨some 16, .bin .add (.t 8) (.c (.int .i64 1)), none⟩,
  ⟨some 8, .mv (.t 16), none⟩]))))
def cmp_Or_g14_r0 : AC :=
 (.seq (.region 0 [⟨some 17, .mv (.t 3), none⟩,
  ⟨some 2, .mv (.t 17), none⟩])
 .ret)
def cmp_Or_g14_ac : AC :=
 (.seq (.region 0 [⟨some 2, .mv (.c (.int .i64 0)), none⟩])
 (.seq (.region 0 [⟨some 3, .mv (.c (.int .i64 0)), none⟩])
 (.seq (.seq (.region 0 [⟨some 6, .mv (.t 0), none⟩,
  ⟨some 7, .len false (.t 6), none⟩,
  ⟨some 8, .mv (.c (.int .i64 0)), none⟩])
 (.block 0 (.loop ⟨[3, 6, 7, 8], [], []⟩ cmp_Or_g14_b0)))
 cmp_Or_g14_r0)))
noncomputable def cmp_Or_g14_l0 (E : Env) (x3 : U) (x6 : U) (x7 : U) (x8 : U) : Option U := loopK (roundOf E ⟨[3, 6, 7, 8], [], []⟩ cmp_Or_g14_b0 (blockK 0 (seqK (fun s => exec E cmp_Or_g14_r0 s (finish [(2, none)])) (finish [(2, none)])))) ([.val x3, .val x6, .val x7, .val x8], [])
theorem cmp_Or_g14_eq (E : Env) (a0 : U) : run E cmp_Or_g14_ac [(2, none)] [a0] =
 (U.lenOf false a0).bind fun n1 => cmp_Or_g14_l0 E (.int .i64 0) a0 (.int .i64 (n1 : Int)) (.int .i64 0) := by kernel_rfl
theorem cmp_Or_g14_l0_eq (E : Env) (x3 : U) (x6 : U) (x7 : U) (x8 : U) : cmp_Or_g14_l0 E x3 x6 x7 x8 =
 (U.bin .lss x8 x7).bind fun t2 => U.asBool t2
 (U.asInt x8 fun n3 => U.elemAt 1 x6 n3 fun e4 => U.asVar false 1 e4 fun e5 => (U.bin .neq e5 x3).bind fun t6 => U.asBool t6
 (some e5)
 ((U.bin .add x8 (.int .i64 1)).bind fun t7 => cmp_Or_g14_l0 E x3 x6 x7 t7))
 (some x3) :=
 (loop_eq E _ _ _ _).trans (by kernel_rfl)

/-- In the environment E: this function and those that it calls. -/
structure G_cmp_Or_g14 (E : Env) : Prop where
  is : Is E 14 1 cmp_Or_g14_ac [(2, none)]
theorem cmp_Or_g14_E {E : Env} (h : G_cmp_Or_g14 E) (a0 : U) : E 14 [a0] =
 (U.lenOf false a0).bind fun n1 => cmp_Or_g14_l0 E (.int .i64 0) a0 (.int .i64 (n1 : Int)) (.int .i64 0) := (h.is _ rfl).trans ((runQ_V rfl).trans (cmp_Or_g14_eq E a0))

end Go.Proofs.Ytmebdbagcbgddaa.Am
namespace Go.Proofs.Ytmebdbagcbgddaa.Am
open Go
set_option linter.unusedVariables false
set_option maxRecDepth 100000

/- cmp.isNaN[int] -/
def cmp_isNaN_g15_ac : AC :=
 (.seq (.region 0 [⟨some 2, .mv (.c (.bool false)), none⟩])
 (.seq (.region 0 [⟨some 3, .mv (.t 0), none⟩,
  ⟨some 4, .mv (.t 0), none⟩,
  ⟨some 5, .bin .neq (.t 3) (.t 4), none⟩,
  ⟨some 2, .mv (.t 5), none⟩])
 .ret))

theorem cmp_isNaN_g15_eq (E : Env) (a0 : U) : run E cmp_isNaN_g15_ac [(2, none)] [a0] =
 (U.bin .neq a0 a0).bind fun t1 => some t1 := by kernel_rfl

/-- In the environment E: this function and those that it calls. -/
structure G_cmp_isNaN_g15 (E : Env) : Prop where
  is : Is E 15 1 cmp_isNaN_g15_ac [(2, none)]
theorem cmp_isNaN_g15_E {E : Env} (h : G_cmp_isNaN_g15 E) (a0 : U) : E 15 [a0] =
 (U.bin .neq a0 a0).bind fun t1 => some t1 := (h.is _ rfl).trans ((runQ_V rfl).trans (cmp_isNaN_g15_eq E a0))

end Go.Proofs.Ytmebdbagcbgddaa.Am
namespace Go.Proofs.Ytmebdbagcbgddaa.Am
open Go
set_option linter.unusedVariables false
set_option maxRecDepth 100000

/- cmp.Compare[int] -/
def cmp_Compare_g13_ac : AC :=
 (.seq (.region 0 [⟨some 4, .mv (.c (.int .i64 0)), none⟩])
 (.seq (.region 0 [⟨some 7, .mv (.t 0), none⟩,
  ⟨some 8, .call false 15 [(.t 7)], none⟩,
  ⟨some 5, .mv (.t 8), none⟩])
 (.seq (.region 0 [⟨some 9, .mv (.t 1), none⟩,
  ⟨some 10, .call false 15 [(.t 9)], none⟩,
  ⟨some 6, .mv (.t 10), none⟩])
 (.seq (.seq (.region 0 [⟨some 11, .mv (.t 5), none⟩])
 (.cond (.t 11) (.seq (.seq (.region 0 [⟨some 12, .mv (.t 6), none⟩])
 (.cond (.t 12) (.seq (.region 0 [⟨some 4, .mv (.c (.int .i64 0)), none⟩])
 .ret) .skip))
 (.seq (.region 0 [⟨some 4, .mv (.c (.int .i64 (-1))), none⟩])
 .ret)) .skip))
 (.seq (.seq (.region 0 [⟨some 13, .mv (.t 6), none⟩])
 (.cond (.t 13) (.seq (.region 0 [⟨some 4, .mv (.c (.int .i64 1)), none⟩])
 .ret) .skip))
 (.seq (.seq (.region 0 [⟨some 14, .mv (.t 0), none⟩,
  ⟨some 15, .mv (.t 1), none⟩,
  ⟨some 16, .bin .lss (.t 14) (.t 15), none⟩])
 (.cond (.t 16) (.seq (.region 0 [⟨some 4, .mv (.c (.int .i64 (-1))), none⟩])
 .ret) .skip))
 (.seq (.seq (.region 0 [⟨some 17, .mv (.t 0), none⟩,
  ⟨some 18, .mv (.t 1), none⟩,
  ⟨some 19, .bin .gtr (.t 17) (.t 18), none⟩])
 (.cond (.t 19) (.seq (.region 0 [⟨some 4, .mv (.c (.int .i64 1)), none⟩])
 .ret) .skip))
 (.seq (.region 0 [⟨some 4, .mv (.c (.int .i64 0)), none⟩])
 .ret))))))))

theorem cmp_Compare_g13_eq (E : Env) (a0 : U) (a1 : U) : run E cmp_Compare_g13_ac [(4, none)] [a0, a1] =
 (E 15 [a0]).bind fun t1 => (E 15 [a1]).bind fun t2 => U.asBool t1
 (U.asBool t2
 (some (.int .i64 0))
 (some (.int .i64 (-1))))
 (U.asBool t2
 (some (.int .i64 1))
 ((U.bin .lss a0 a1).bind fun t3 => U.asBool t3
 (some (.int .i64 (-1)))
 ((U.bin .gtr a0 a1).bind fun t4 => U.asBool t4
 (some (.int .i64 1))
 (some (.int .i64 0))))) := by kernel_rfl

/-- In the environment E: this function and those that it calls. -/
structure G_cmp_Compare_g13 (E : Env) : Prop where
  is : Is E 13 2 cmp_Compare_g13_ac [(4, none)]
  c_cmp_isNaN_g15 : G_cmp_isNaN_g15 E
theorem cmp_Compare_g13_E {E : Env} (h : G_cmp_Compare_g13 E) (a0 a1 : U) : E 13 [a0, a1] =
 (E 15 [a0]).bind fun t1 => (E 15 [a1]).bind fun t2 => U.asBool t1
 (U.asBool t2
 (some (.int .i64 0))
 (some (.int .i64 (-1))))
 (U.asBool t2
 (some (.int .i64 1))
 ((U.bin .lss a0 a1).bind fun t3 => U.asBool t3
 (some (.int .i64 (-1)))
 ((U.bin .gtr a0 a1).bind fun t4 => U.asBool t4
 (some (.int .i64 1))
 (some (.int .i64 0))))) := (h.is _ rfl).trans ((runQ_V rfl).trans (cmp_Compare_g13_eq E a0 a1))

end Go.Proofs.Ytmebdbagcbgddaa.Am
namespace Go.Proofs.Ytmebdbagcbgddaa.Am
open Go
set_option linter.unusedVariables false
set_option maxRecDepth 100000

/- loop.example/g01924/impl.compareEdges -/
def impl_compareEdges_ac : AC :=
 (.seq (.region 0 [⟨some 2, .box false 2 (.t 0), none⟩,
  ⟨some 3, .box false 3 (.t 1), none⟩,
  ⟨some 4, .mv (.c (.int .i64 0)), none⟩])
 (.seq (.region 23 [⟨some 5, .faddr 0 0 (.t 2), none⟩,
  ⟨some 6, .load false 1 (.t 5), none⟩,
  ⟨some 7, .faddr 0 0 (.t 3), none⟩,
  ⟨some 8, .load false 1 (.t 7), none⟩,
  ⟨some 9, .call false 13 [(.t 6), (.t 8)], none⟩,
  ⟨some 10, .faddr 1 1 (.t 2), none⟩,
  ⟨some 11, .load false 1 (.t 10), none⟩,
  ⟨some 12, .faddr 1 1 (.t 3), none⟩,
  ⟨some 13, .load false 1 (.t 12), none⟩,
  ⟨some 14, .call false 13 [(.t 11), (.t 13)], none⟩,
  ⟨some 15, .faddr 2 2 (.t 2), none⟩,
  ⟨some 16, .load false 1 (.t 15), none⟩,
  ⟨some 17, .faddr 2 2 (.t 3), none⟩,
  ⟨some 18, .load false 1 (.t 17), none⟩,
  ⟨some 19, .call false 13 [(.t 16), (.t 18)], none⟩,
  ⟨some 20, .faddr 3 3 (.t 2), none⟩,
  ⟨some 21, .load false 1 (.t 20), none⟩,
  ⟨some 22, .faddr 3 3 (.t 3), none⟩,
  ⟨some 23, .load false 1 (.t 22), none⟩,
  ⟨some 24, .call false 13 [(.t 21), (.t 23)], none⟩,
  ⟨some 25, .bslice 0 25 1 4 (.int .i64 0) [(0, (.t 9)), (1, (.t 14)), (2, (.t 19)), (3, (.t 24))], none⟩,
  ⟨some 26, .call false 14 [(.t 25)], none⟩,
  ⟨some 4, .mv (.t 26), none⟩])
 .ret))

theorem impl_compareEdges_eq (E : Env) (a0 : U) (a1 : U) : run E impl_compareEdges_ac [(4, none)] [a0, a1] =
 U.noTup a0 fun x1 => U.noTup a1 fun x2 => U.asAgg x1 fun us3 => if 0 = sizes (us3.take 0) then (us3[0]?).bind fun e4 => U.asVar false 1 e4 fun e5 => U.asAgg x2 fun us6 => if 0 = sizes (us6.take 0) then (us6[0]?).bind fun e7 => U.asVar false 1 e7 fun e8 => (E 13 [e5, e8]).bind fun t9 => U.asAgg x1 fun us10 => if 1 = sizes (us10.take 1) then (us10[1]?).bind fun e11 => U.asVar false 1 e11 fun e12 => U.asAgg x2 fun us13 => if 1 = sizes (us13.take 1) then (us13[1]?).bind fun e14 => U.asVar false 1 e14 fun e15 => (E 13 [e12, e15]).bind fun t16 => U.asAgg x1 fun us17 => if 2 = sizes (us17.take 2) then (us17[2]?).bind fun e18 => U.asVar false 1 e18 fun e19 => U.asAgg x2 fun us20 => if 2 = sizes (us20.take 2) then (us20[2]?).bind fun e21 => U.asVar false 1 e21 fun e22 => (E 13 [e19, e22]).bind fun t23 => U.asAgg x1 fun us24 => if 3 = sizes (us24.take 3) then (us24[3]?).bind fun e25 => U.asVar false 1 e25 fun e26 => U.asAgg x2 fun us27 => if 3 = sizes (us27.take 3) then (us27[3]?).bind fun e28 => U.asVar false 1 e28 fun e29 => (E 13 [e26, e29]).bind fun t30 => if partable (.val t9) = true ∧ t9.size = 1 then if partable (.val t16) = true ∧ t16.size = 1 then if partable (.val t23) = true ∧ t23.size = 1 then if partable (.val t30) = true ∧ t30.size = 1 then (E 14 [(.sl 1 [t9, t16, t23, t30])]).bind fun t31 => some t31 else none else none else none else none else none else none else none else none else none else none else none else none := by kernel_rfl

/-- In the environment E: this function and those that it calls. -/
structure G_impl_compareEdges (E : Env) : Prop where
  is : Is E 12 2 impl_compareEdges_ac [(4, none)]
  c_cmp_Or_g14 : G_cmp_Or_g14 E
  c_cmp_Compare_g13 : G_cmp_Compare_g13 E
theorem impl_compareEdges_E {E : Env} (h : G_impl_compareEdges E) (a0 a1 : U) : E 12 [a0, a1] =
 U.noTup a0 fun x1 => U.noTup a1 fun x2 => U.asAgg x1 fun us3 => if 0 = sizes (us3.take 0) then (us3[0]?).bind fun e4 => U.asVar false 1 e4 fun e5 => U.asAgg x2 fun us6 => if 0 = sizes (us6.take 0) then (us6[0]?).bind fun e7 => U.asVar false 1 e7 fun e8 => (E 13 [e5, e8]).bind fun t9 => U.asAgg x1 fun us10 => if 1 = sizes (us10.take 1) then (us10[1]?).bind fun e11 => U.asVar false 1 e11 fun e12 => U.asAgg x2 fun us13 => if 1 = sizes (us13.take 1) then (us13[1]?).bind fun e14 => U.asVar false 1 e14 fun e15 => (E 13 [e12, e15]).bind fun t16 => U.asAgg x1 fun us17 => if 2 = sizes (us17.take 2) then (us17[2]?).bind fun e18 => U.asVar false 1 e18 fun e19 => U.asAgg x2 fun us20 => if 2 = sizes (us20.take 2) then (us20[2]?).bind fun e21 => U.asVar false 1 e21 fun e22 => (E 13 [e19, e22]).bind fun t23 => U.asAgg x1 fun us24 => if 3 = sizes (us24.take 3) then (us24[3]?).bind fun e25 => U.asVar false 1 e25 fun e26 => U.asAgg x2 fun us27 => if 3 = sizes (us27.take 3) then (us27[3]?).bind fun e28 => U.asVar false 1 e28 fun e29 => (E 13 [e26, e29]).bind fun t30 => if partable (.val t9) = true ∧ t9.size = 1 then if partable (.val t16) = true ∧ t16.size = 1 then if partable (.val t23) = true ∧ t23.size = 1 then if partable (.val t30) = true ∧ t30.size = 1 then (E 14 [(.sl 1 [t9, t16, t23, t30])]).bind fun t31 => some t31 else none else none else none else none else none else none else none else none else none else none else none else none := (h.is _ rfl).trans ((runQ_V rfl).trans (impl_compareEdges_eq E a0 a1))

end Go.Proofs.Ytmebdbagcbgddaa.Am
