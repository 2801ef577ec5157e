import Derived.KernelRfl
import Derived.Test.YtfdcdbkblkehcaaAmW
import Derived.Test.YtfdcdbkblkehcaaAmCl
import Derived.Test.YtfdcdbkblkehcaaAmX
namespace Go.Proofs.Ytfdcdbkblkehcaa.Am
open Go
set_option linter.unusedVariables false
set_option maxRecDepth 100000

/- loop.example/g01924/laws.szReadMarkS -/
def laws_szReadMarkS_ac : AC :=
 (.seq (.region 0 [⟨some 4, .mv (.c (.int .i64 0)), none⟩])
 (.seq (.region 0 [⟨some 5, .mv (.t 1), none⟩,
  ⟨some 6, .mv (.t 0), none⟩,
  ⟨some 7, .len false (.t 6), none⟩,
  ⟨some 8, .bin .sub (.t 5) (.t 7), none⟩,
  ⟨some 1, .mv (.t 8), none⟩])
 (.seq (.seq (.region 0 [⟨some 9, .mv (.t 1), none⟩,
  ⟨some 10, .bin .lss (.t 9) (.c (.int .i64 0)), none⟩])
 (.cond (.t 10) (.seq (.region 0 [⟨some 4, .mv (.c (.int .i64 (-1))), none⟩])
 .ret) .skip))
 (.seq (.region 0 [⟨some 11, .mv (.t 1), none⟩,
  ⟨some 4, .mv (.t 11), none⟩])
 .ret))))

theorem laws_szReadMarkS_eq (E : Env) (a0 : U) (a1 : U) : run E laws_szReadMarkS_ac [(4, none)] [a0, a1] =
 (U.lenOf false a0).bind fun n1 => (U.bin .sub a1 (.int .i64 (n1 : Int))).bind fun t2 => (U.bin .lss t2 (.int .i64 0)).bind fun t3 => U.asBool t3
 (some (.int .i64 (-1)))
 (some t2) := by kernel_rfl

/-- In the environment E: this function and those that it calls. -/
structure G_laws_szReadMarkS (E : Env) : Prop where
  is : Is E 24 2 laws_szReadMarkS_ac [(4, none)]
theorem laws_szReadMarkS_E {E : Env} (h : G_laws_szReadMarkS E) (a0 a1 : U) : E 24 [a0, a1] =
 (U.lenOf false a0).bind fun n1 => (U.bin .sub a1 (.int .i64 (n1 : Int))).bind fun t2 => (U.bin .lss t2 (.int .i64 0)).bind fun t3 => U.asBool t3
 (some (.int .i64 (-1)))
 (some t2) := (h.is _ rfl).trans ((runQ_V rfl).trans (laws_szReadMarkS_eq E a0 a1))

end Go.Proofs.Ytfdcdbkblkehcaa.Am
namespace Go.Proofs.Ytfdcdbkblkehcaa.Am
open Go
set_option linter.unusedVariables false
set_option maxRecDepth 100000

/- loop.example/g01924/laws.szWriteS -/
def laws_szWriteS_ac : AC :=
 (.seq (.region 0 [⟨some 4, .mv (.c (.int .i64 0)), none⟩])
 (.seq (.region 0 [⟨some 5, .mv (.t 1), none⟩,
  ⟨some 6, .mv (.t 0), none⟩,
  ⟨some 7, .len false (.t 6), none⟩,
  ⟨some 8, .bin .sub (.t 5) (.t 7), none⟩,
  ⟨some 1, .mv (.t 8), none⟩])
 (.seq (.seq (.region 0 [⟨some 9, .mv (.t 1), none⟩,
  ⟨some 10, .bin .lss (.t 9) (.c (.int .i64 0)), none⟩])
 (.cond (.t 10) (.seq (.region 0 [⟨some 4, .mv (.c (.int .i64 (-1))), none⟩])
 .ret) .skip))
 (.seq (.region 0 [⟨some 11, .mv (.t 1), none⟩,
  ⟨some 4, .mv (.t 11), none⟩])
 .ret))))

theorem laws_szWriteS_eq (E : Env) (a0 : U) (a1 : U) : run E laws_szWriteS_ac [(4, none)] [a0, a1] =
 (U.lenOf false a0).bind fun n1 => (U.bin .sub a1 (.int .i64 (n1 : Int))).bind fun t2 => (U.bin .lss t2 (.int .i64 0)).bind fun t3 => U.asBool t3
 (some (.int .i64 (-1)))
 (some t2) := by kernel_rfl

/-- In the environment E: this function and those that it calls. -/
structure G_laws_szWriteS (E : Env) : Prop where
  is : Is E 23 2 laws_szWriteS_ac [(4, none)]
theorem laws_szWriteS_E {E : Env} (h : G_laws_szWriteS E) (a0 a1 : U) : E 23 [a0, a1] =
 (U.lenOf false a0).bind fun n1 => (U.bin .sub a1 (.int .i64 (n1 : Int))).bind fun t2 => (U.bin .lss t2 (.int .i64 0)).bind fun t3 => U.asBool t3
 (some (.int .i64 (-1)))
 (some t2) := (h.is _ rfl).trans ((runQ_V rfl).trans (laws_szWriteS_eq E a0 a1))

end Go.Proofs.Ytfdcdbkblkehcaa.Am
namespace Go.Proofs.Ytfdcdbkblkehcaa.Am
open Go
set_option linter.unusedVariables false
set_option maxRecDepth 100000

/- loop.example/g01924/laws.szTransaction -/
def laws_szTransaction_ac : AC :=
 (.seq (.region 0 [⟨some 2, .box false 2 (.t 0), none⟩,
  ⟨some 4, .mv (.c (.int .i64 0)), none⟩])
 (.seq (.region 0 [⟨some 5, .faddr 7 7 (.t 2), none⟩,
  ⟨some 6, .load false 1 (.t 5), none⟩,
  ⟨some 7, .mv (.t 1), none⟩,
  ⟨some 8, .call false 24 [(.t 6), (.t 7)], none⟩,
  ⟨some 1, .mv (.t 8), none⟩])
 (.seq (.seq (.region 0 [⟨some 9, .mv (.t 1), none⟩,
  ⟨some 10, .bin .lss (.t 9) (.c (.int .i64 0)), none⟩])
 (.cond (.t 10) (.seq (.region 0 [⟨some 4, .mv (.c (.int .i64 (-1))), none⟩])
 .ret) .skip))
 (.seq (.region 0 [⟨some 11, .faddr 8 8 (.t 2), none⟩,
  ⟨some 12, .load false 1 (.t 11), none⟩,
  ⟨some 13, .mv (.t 1), none⟩,
  ⟨some 14, .call false 23 [(.t 12), (.t 13)], none⟩,
  ⟨some 1, .mv (.t 14), none⟩])
 (.seq (.seq (.region 0 [⟨some 15, .mv (.t 1), none⟩,
  ⟨some 16, .bin .lss (.t 15) (.c (.int .i64 0)), none⟩])
 (.cond (.t 16) (.seq (.region 0 [⟨some 4, .mv (.c (.int .i64 (-1))), none⟩])
 .ret) .skip))
 (.seq (.region 0 [⟨some 17, .mv (.t 1), none⟩,
  ⟨some 4, .mv (.t 17), none⟩])
 .ret))))))

theorem laws_szTransaction_eq (E : Env) (a0 : U) (a1 : U) : run E laws_szTransaction_ac [(4, none)] [a0, a1] =
 U.noTup a0 fun x1 => U.asAgg x1 fun us2 => if 7 = sizes (us2.take 7) then (us2[7]?).bind fun e3 => U.asVar false 1 e3 fun e4 => (E 24 [e4, a1]).bind fun t5 => (U.bin .lss t5 (.int .i64 0)).bind fun t6 => U.asBool t6
 (some (.int .i64 (-1)))
 (U.asAgg x1 fun us7 => if 8 = sizes (us7.take 8) then (us7[8]?).bind fun e8 => U.asVar false 1 e8 fun e9 => (E 23 [e9, t5]).bind fun t10 => (U.bin .lss t10 (.int .i64 0)).bind fun t11 => U.asBool t11
 (some (.int .i64 (-1)))
 (some t10) else none) else none := by kernel_rfl

/-- In the environment E: this function and those that it calls. -/
structure G_laws_szTransaction (E : Env) : Prop where
  is : Is E 132 2 laws_szTransaction_ac [(4, none)]
  c_laws_szReadMarkS : G_laws_szReadMarkS E
  c_laws_szWriteS : G_laws_szWriteS E
theorem laws_szTransaction_E {E : Env} (h : G_laws_szTransaction E) (a0 a1 : U) : E 132 [a0, a1] =
 U.noTup a0 fun x1 => U.asAgg x1 fun us2 => if 7 = sizes (us2.take 7) then (us2[7]?).bind fun e3 => U.asVar false 1 e3 fun e4 => (E 24 [e4, a1]).bind fun t5 => (U.bin .lss t5 (.int .i64 0)).bind fun t6 => U.asBool t6
 (some (.int .i64 (-1)))
 (U.asAgg x1 fun us7 => if 8 = sizes (us7.take 8) then (us7[8]?).bind fun e8 => U.asVar false 1 e8 fun e9 => (E 23 [e9, t5]).bind fun t10 => (U.bin .lss t10 (.int .i64 0)).bind fun t11 => U.asBool t11
 (some (.int .i64 (-1)))
 (some t10) else none) else none := (h.is _ rfl).trans ((runQ_V rfl).trans (laws_szTransaction_eq E a0 a1))

end Go.Proofs.Ytfdcdbkblkehcaa.Am
namespace Go.Proofs.Ytfdcdbkblkehcaa.Am
open Go
set_option linter.unusedVariables false
set_option maxRecDepth 100000

/- loop.example/g01924/spec.l5Copy -/
def spec_l5Copy_ac : AC :=
 (.seq (.region 0 [⟨some 1, .box false 1 (.t 0), none⟩,
  ⟨some 2, .alloc 2 (.agg [(.int .i64 0), (.int .i64 0), (.int .i64 0), (.int .i64 0), (.int .i64 0), (.int .i64 0), (.int .i64 0), (.nsl 2), (.nsl 2)]), none⟩])
 (.seq (.region 0 [⟨some 4, .loadN 9 9 (.t 1), none⟩,
  ⟨some 3, .alloc 3 (.agg [(.int .i64 0), (.int .i64 0), (.int .i64 0), (.int .i64 0), (.int .i64 0), (.int .i64 0), (.int .i64 0), (.nsl 2), (.nsl 2)]), none⟩,
  ⟨none, .store 9 (.t 3) (.t 4), none⟩])
 (.seq (.region 0 [⟨some 5, .bslice 1 5 2 0 (.agg [(.int .i64 0), (.int .i64 0)]) [], none⟩,
  ⟨some 6, .faddr 7 7 (.t 1), none⟩,
  ⟨some 7, .load false 1 (.t 6), none⟩,
  ⟨some 8, .append false 8 2 16 (.t 5) (.t 7), none⟩,
  ⟨some 9, .faddr 7 7 (.t 3), none⟩,
  ⟨none, .storeM 3000 1 (.t 9) (.t 8), none⟩])
 (.seq (.region 0 [⟨some 10, .bslice 1 10 2 0 (.agg [(.int .i64 0), (.int .i64 0)]) [], none⟩,
  ⟨some 11, .faddr 8 8 (.t 1), none⟩,
  ⟨some 12, .load false 1 (.t 11), none⟩,
  ⟨some 13, .append false 13 2 16 (.t 10) (.t 12), none⟩,
  ⟨some 14, .faddr 8 8 (.t 3), none⟩,
  ⟨none, .storeM 3001 1 (.t 14) (.t 13), none⟩])
 (.seq (.region 0 [⟨some 15, .loadO (.agg [.int, .int, .int, .int, .int, .int, .int, (.sl 2), (.sl 2)]) (.t 3), none⟩,
  ⟨none, .storeM 3002 9 (.t 2) (.t 15), none⟩])
 .ret)))))

theorem spec_l5Copy_eq (E : Env) (a0 : U) : run E spec_l5Copy_ac [(2, some (true, 9))] [a0] =
 U.noTup a0 fun x1 => U.asVar true 9 x1 fun e2 => U.asAgg e2 fun us3 => (match us3 with
 | u4 :: us5 => ((match us5 with
 | u6 :: us7 => ((match us7 with
 | u8 :: us9 => ((match us9 with
 | u10 :: us11 => ((match us11 with
 | u12 :: us13 => ((match us13 with
 | u14 :: us15 => ((match us15 with
 | u16 :: us17 => ((match us17 with
 | u18 :: us19 => ((match us19 with
 | u20 :: us21 => ((match us21 with
 | [] => (if storable (.val (.agg [u4, u6, u8, u10, u12, u14, u16, u18, u20])) = true ∧ ((.agg [u4, u6, u8, u10, u12, u14, u16, u18, u20]) : U).size = 9 then U.asAgg x1 fun us22 => if 7 = sizes (us22.take 7) then (us22[7]?).bind fun e23 => U.asVar false 1 e23 fun e24 => (U.elems 2 e24).bind fun ys25 => if 2 = 2 ∧ 2 = 2 ∧ ((([] : List U)).length + (ys25 : List U).length) * 16 ≤ 140737488355328 then if 7 = sizes [u4, u6, u8, u10, u12, u14, u16] then if 7 = sizes [u4, u6, u8, u10, u12, u14, u16] then if u18.size = u18.size then if 7 = dsizes [.val u4, .val u6, .val u8, .val u10, .val u12, .val u14, .val u16] then if u18.size = 1 then U.asAgg x1 fun us26 => if 8 = sizes (us26.take 8) then (us26[8]?).bind fun e27 => U.asVar false 1 e27 fun e28 => (U.elems 2 e28).bind fun ys29 => if 2 = 2 ∧ 2 = 2 ∧ ((([] : List U)).length + (ys29 : List U).length) * 16 ≤ 140737488355328 then if 8 = dsizes [.val u4, .val u6, .val u8, .val u10, .val u12, .val u14, .val u16, .asl 2 (([] : List U) ++ ys25)] then if 8 = dsizes [.val u4, .val u6, .val u8, .val u10, .val u12, .val u14, .val u16, .asl 2 (([] : List U) ++ ys25)] then if u20.size = u20.size then if 8 = dsizes [.val u4, .val u6, .val u8, .val u10, .val u12, .val u14, .val u16, .asl 2 (([] : List U) ++ ys25)] then if u20.size = 1 then U.asInt u4 fun n30 => U.asInt u6 fun n31 => U.asInt u8 fun n32 => U.asInt u10 fun n33 => U.asInt u12 fun n34 => U.asInt u14 fun n35 => U.asInt u16 fun n36 => if 7 = dsizes [.val u4, .val u6, .val u8, .val u10, .val u12, .val u14, .val u16] then if 7 = dsizes [.val u4, .val u6, .val u8, .val u10, .val u12, .val u14, .val u16] then if 8 = dsizes [.val u4, .val u6, .val u8, .val u10, .val u12, .val u14, .val u16, .junk 1] then if 8 = dsizes [.val u4, .val u6, .val u8, .val u10, .val u12, .val u14, .val u16, .junk 1] then some (.agg [(.int .i64 n30), (.int .i64 n31), (.int .i64 n32), (.int .i64 n33), (.int .i64 n34), (.int .i64 n35), (.int .i64 n36), (.sl 2 (([] : List U) ++ ys25)), (.sl 2 (([] : List U) ++ ys29))]) else none else none else none else none else none else none else none else none else none else none else none else none else none else none else none else none else none else none else none)
 | _ => none))
 | [] => none))
 | [] => none))
 | [] => none))
 | [] => none))
 | [] => none))
 | [] => none))
 | [] => none))
 | [] => none))
 | [] => none) := by kernel_rfl

/-- In the environment E: this function and those that it calls. -/
structure G_spec_l5Copy (E : Env) : Prop where
  is : Is E 212 1 spec_l5Copy_ac [(2, some (true, 9))]
theorem spec_l5Copy_E {E : Env} (h : G_spec_l5Copy E) (a0 : U) : E 212 [a0] =
 U.noTup a0 fun x1 => U.asVar true 9 x1 fun e2 => U.asAgg e2 fun us3 => (match us3 with
 | u4 :: us5 => ((match us5 with
 | u6 :: us7 => ((match us7 with
 | u8 :: us9 => ((match us9 with
 | u10 :: us11 => ((match us11 with
 | u12 :: us13 => ((match us13 with
 | u14 :: us15 => ((match us15 with
 | u16 :: us17 => ((match us17 with
 | u18 :: us19 => ((match us19 with
 | u20 :: us21 => ((match us21 with
 | [] => (if storable (.val (.agg [u4, u6, u8, u10, u12, u14, u16, u18, u20])) = true ∧ ((.agg [u4, u6, u8, u10, u12, u14, u16, u18, u20]) : U).size = 9 then U.asAgg x1 fun us22 => if 7 = sizes (us22.take 7) then (us22[7]?).bind fun e23 => U.asVar false 1 e23 fun e24 => (U.elems 2 e24).bind fun ys25 => if 2 = 2 ∧ 2 = 2 ∧ ((([] : List U)).length + (ys25 : List U).length) * 16 ≤ 140737488355328 then if 7 = sizes [u4, u6, u8, u10, u12, u14, u16] then if 7 = sizes [u4, u6, u8, u10, u12, u14, u16] then if u18.size = u18.size then if 7 = dsizes [.val u4, .val u6, .val u8, .val u10, .val u12, .val u14, .val u16] then if u18.size = 1 then U.asAgg x1 fun us26 => if 8 = sizes (us26.take 8) then (us26[8]?).bind fun e27 => U.asVar false 1 e27 fun e28 => (U.elems 2 e28).bind fun ys29 => if 2 = 2 ∧ 2 = 2 ∧ ((([] : List U)).length + (ys29 : List U).length) * 16 ≤ 140737488355328 then if 8 = dsizes [.val u4, .val u6, .val u8, .val u10, .val u12, .val u14, .val u16, .asl 2 (([] : List U) ++ ys25)] then if 8 = dsizes [.val u4, .val u6, .val u8, .val u10, .val u12, .val u14, .val u16, .asl 2 (([] : List U) ++ ys25)] then if u20.size = u20.size then if 8 = dsizes [.val u4, .val u6, .val u8, .val u10, .val u12, .val u14, .val u16, .asl 2 (([] : List U) ++ ys25)] then if u20.size = 1 then U.asInt u4 fun n30 => U.asInt u6 fun n31 => U.asInt u8 fun n32 => U.asInt u10 fun n33 => U.asInt u12 fun n34 => U.asInt u14 fun n35 => U.asInt u16 fun n36 => if 7 = dsizes [.val u4, .val u6, .val u8, .val u10, .val u12, .val u14, .val u16] then if 7 = dsizes [.val u4, .val u6, .val u8, .val u10, .val u12, .val u14, .val u16] then if 8 = dsizes [.val u4, .val u6, .val u8, .val u10, .val u12, .val u14, .val u16, .junk 1] then if 8 = dsizes [.val u4, .val u6, .val u8, .val u10, .val u12, .val u14, .val u16, .junk 1] then some (.agg [(.int .i64 n30), (.int .i64 n31), (.int .i64 n32), (.int .i64 n33), (.int .i64 n34), (.int .i64 n35), (.int .i64 n36), (.sl 2 (([] : List U) ++ ys25)), (.sl 2 (([] : List U) ++ ys29))]) else none else none else none else none else none else none else none else none else none else none else none else none else none else none else none else none else none else none else none)
 | _ => none))
 | [] => none))
 | [] => none))
 | [] => none))
 | [] => none))
 | [] => none))
 | [] => none))
 | [] => none))
 | [] => none))
 | [] => none) := (h.is _ rfl).trans ((runQ_V rfl).trans (spec_l5Copy_eq E a0))

end Go.Proofs.Ytfdcdbkblkehcaa.Am
namespace Go.Proofs.Ytfdcdbkblkehcaa.Am
open Go
set_option linter.unusedVariables false
set_option maxRecDepth 100000

/- loop.example/g01924/spec.l1In -/
def spec_l1In_ac : AC :=
 (.seq (.region 0 [⟨some 6, .mv (.c (.bool false)), none⟩])
 (.seq (.region 0 [⟨some 7, .mv (.t 0), none⟩,
  ⟨some 8, .mv (.t 1), none⟩,
  ⟨some 9, .bin .geq (.t 7) (.t 8), none⟩,
  ⟨some 10, .mv (.t 9), none⟩,
  ⟨some 11, .mv (.t 0), some (10, true)⟩,
  ⟨some 12, .mv (.t 2), some (10, true)⟩,
  ⟨some 13, .bin .leq (.t 11) (.t 12), some (10, true)⟩,
  ⟨some 14, .pick (.t 10) (.t 13) (.c (.bool false)), none⟩,
  ⟨some 6, .mv (.t 14), none⟩])
 .ret))

theorem spec_l1In_eq (E : Env) (a0 : U) (a1 : U) (a2 : U) : run E spec_l1In_ac [(6, none)] [a0, a1, a2] =
 (U.bin .geq a0 a1).bind fun t1 => U.asBool t1
 ((U.bin .leq a0 a2).bind fun t2 => some t2)
 (some (.bool false)) := by kernel_rfl

/-- In the environment E: this function and those that it calls. -/
structure G_spec_l1In (E : Env) : Prop where
  is : Is E 6 3 spec_l1In_ac [(6, none)]
theorem spec_l1In_E {E : Env} (h : G_spec_l1In E) (a0 a1 a2 : U) : E 6 [a0, a1, a2] =
 (U.bin .geq a0 a1).bind fun t1 => U.asBool t1
 ((U.bin .leq a0 a2).bind fun t2 => some t2)
 (some (.bool false)) := (h.is _ rfl).trans ((runQ_V rfl).trans (spec_l1In_eq E a0 a1 a2))

end Go.Proofs.Ytfdcdbkblkehcaa.Am
namespace Go.Proofs.Ytfdcdbkblkehcaa.Am
open Go
set_option linter.unusedVariables false
set_option maxRecDepth 100000

/- loop.example/g01924/spec.l5Before -/
def spec_l5Before_ac : AC :=
 (.seq (.region 0 [⟨some 2, .box false 2 (.t 0), none⟩,
  ⟨some 3, .box false 3 (.t 1), none⟩,
  ⟨some 4, .mv (.c (.bool false)), none⟩])
 (.seq (.region 0 [⟨some 5, .faddr 0 0 (.t 2), none⟩,
  ⟨some 6, .load false 1 (.t 5), none⟩,
  ⟨some 7, .faddr 0 0 (.t 3), none⟩,
  ⟨some 8, .load false 1 (.t 7), none⟩,
  ⟨some 9, .bin .lss (.t 6) (.t 8), none⟩,
  ⟨some 10, .mv (.t 9), none⟩,
  ⟨some 11, .faddr 0 0 (.t 2), some (10, false)⟩,
  ⟨some 12, .load false 1 (.t 11), some (10, false)⟩,
  ⟨some 13, .faddr 0 0 (.t 3), some (10, false)⟩,
  ⟨some 14, .load false 1 (.t 13), some (10, false)⟩,
  ⟨some 15, .bin .eql (.t 12) (.t 14), some (10, false)⟩,
  ⟨some 16, .mv (.t 15), some (10, false)⟩,
  ⟨some 17, .faddr 1 1 (.t 2), some (16, true)⟩,
  ⟨some 18, .load false 1 (.t 17), some (16, true)⟩,
  ⟨some 19, .faddr 1 1 (.t 3), some (16, true)⟩,
  ⟨some 20, .load false 1 (.t 19), some (16, true)⟩,
  ⟨some 21, .bin .lss (.t 18) (.t 20), some (16, true)⟩,
  ⟨some 22, .pick (.t 16) (.t 21) (.c (.bool false)), some (10, false)⟩,
  ⟨some 23, .pick (.t 10) (.c (.bool true)) (.t 22), none⟩,
  ⟨some 4, .mv (.t 23), none⟩])
 .ret))

theorem spec_l5Before_eq (E : Env) (a0 : U) (a1 : U) : run E spec_l5Before_ac [(4, none)] [a0, a1] =
 U.noTup a0 fun x1 => U.noTup a1 fun x2 => U.asAgg x1 fun us3 => if 0 = sizes (us3.take 0) then (us3[0]?).bind fun e4 => U.asVar false 1 e4 fun e5 => U.asAgg x2 fun us6 => if 0 = sizes (us6.take 0) then (us6[0]?).bind fun e7 => U.asVar false 1 e7 fun e8 => (U.bin .lss e5 e8).bind fun t9 => U.asBool t9
 (some (.bool true))
 (U.asAgg x1 fun us10 => if 0 = sizes (us10.take 0) then (us10[0]?).bind fun e11 => U.asVar false 1 e11 fun e12 => U.asAgg x2 fun us13 => if 0 = sizes (us13.take 0) then (us13[0]?).bind fun e14 => U.asVar false 1 e14 fun e15 => (U.bin .eql e12 e15).bind fun t16 => U.asBool t16
 (U.asAgg x1 fun us17 => if 1 = sizes (us17.take 1) then (us17[1]?).bind fun e18 => U.asVar false 1 e18 fun e19 => U.asAgg x2 fun us20 => if 1 = sizes (us20.take 1) then (us20[1]?).bind fun e21 => U.asVar false 1 e21 fun e22 => (U.bin .lss e19 e22).bind fun t23 => some t23 else none else none)
 (some (.bool false)) else none else none) else none else none := by kernel_rfl

/-- In the environment E: this function and those that it calls. -/
structure G_spec_l5Before (E : Env) : Prop where
  is : Is E 71 2 spec_l5Before_ac [(4, none)]
theorem spec_l5Before_E {E : Env} (h : G_spec_l5Before E) (a0 a1 : U) : E 71 [a0, a1] =
 U.noTup a0 fun x1 => U.noTup a1 fun x2 => U.asAgg x1 fun us3 => if 0 = sizes (us3.take 0) then (us3[0]?).bind fun e4 => U.asVar false 1 e4 fun e5 => U.asAgg x2 fun us6 => if 0 = sizes (us6.take 0) then (us6[0]?).bind fun e7 => U.asVar false 1 e7 fun e8 => (U.bin .lss e5 e8).bind fun t9 => U.asBool t9
 (some (.bool true))
 (U.asAgg x1 fun us10 => if 0 = sizes (us10.take 0) then (us10[0]?).bind fun e11 => U.asVar false 1 e11 fun e12 => U.asAgg x2 fun us13 => if 0 = sizes (us13.take 0) then (us13[0]?).bind fun e14 => U.asVar false 1 e14 fun e15 => (U.bin .eql e12 e15).bind fun t16 => U.asBool t16
 (U.asAgg x1 fun us17 => if 1 = sizes (us17.take 1) then (us17[1]?).bind fun e18 => U.asVar false 1 e18 fun e19 => U.asAgg x2 fun us20 => if 1 = sizes (us20.take 1) then (us20[1]?).bind fun e21 => U.asVar false 1 e21 fun e22 => (U.bin .lss e19 e22).bind fun t23 => some t23 else none else none)
 (some (.bool false)) else none else none) else none else none := (h.is _ rfl).trans ((runQ_V rfl).trans (spec_l5Before_eq E a0 a1))

end Go.Proofs.Ytfdcdbkblkehcaa.Am
namespace Go.Proofs.Ytfdcdbkblkehcaa.Am
open Go
set_option linter.unusedVariables false
set_option maxRecDepth 100000

/- loop.example/g01924/spec.IsValidTransaction -/
def spec_IsValidTransaction_b1 : AC :=
 (.seq (.seq (.region 0 [⟨some 7, .mv (.t 3), none⟩,
  ⟨some 8, .faddr 7 7 (.t 1), none⟩,
  ⟨some 9, .load false 1 (.t 8), none⟩,
  ⟨some 10, .len false (.t 9), none⟩,
  ⟨some 11, .bin .lss (.t 7) (.t 10), none⟩])
 (.cond (.t 11) .skip (.exit 0)))
 (.seq (.block 1 (.seq (.region 0 [⟨some 14, .faddr 7 7 (.t 1), none⟩,
  ⟨some 15, .load false 1 (.t 14), none⟩,
  ⟨some 16, .mv (.t 3), none⟩,
  ⟨some 17, .iaddr 2 (.t 15) (.t 16), none⟩,
  ⟨some 18, .load true 2 (.t 17), none⟩,
  ⟨some 4, .alloc 4 (.agg [(.int .i64 0), (.int .i64 0)]), none⟩,
  ⟨none, .store 2 (.t 4) (.t 18), none⟩])
 (.seq (.region 25 [⟨some 19, .faddr 0 0 (.t 4), none⟩,
  ⟨some 20, .load false 1 (.t 19), none⟩,
  ⟨some 21, .call false 6 [(.t 20), (.c (.int .i64 0)), (.c (.int .i64 5))], none⟩,
  ⟨some 22, .un .not (.t 21), none⟩,
  ⟨some 23, .mv (.t 22), none⟩,
  ⟨some 24, .faddr 1 1 (.t 4), some (23, false)⟩,
  ⟨some 25, .load false 1 (.t 24), some (23, false)⟩,
  ⟨some 26, .call false 6 [(.t 25), (.c (.int .i64 0)), (.c (.int .i64 999))], some (23, false)⟩,
  ⟨some 27, .un .not (.t 26), some (23, false)⟩,
  ⟨some 28, .pick (.t 23) (.c (.bool true)) (.t 27), none⟩,
  ⟨some 29, .mv (.t 28), none⟩,
  ⟨some 30, .mv (.t 3), some (29, false)⟩,
  ⟨some 31, .bin .gtr (.t 30) (.c (.int .i64 0)), some (29, false)⟩,
  ⟨some 32, .mv (.t 31), some (29, false)⟩,
  ⟨some 33, .faddr 7 7 (.t 1), some (32, true)⟩,
  ⟨some 34, .load false 1 (.t 33), some (32, true)⟩,
  ⟨some 35, .mv (.t 3), some (32, true)⟩,
  ⟨some 36, .bin .sub (.t 35) (.c (.int .i64 1)), some (32, true)⟩,
  ⟨some 37, .iaddr 2 (.t 34) (.t 36), some (32, true)⟩,
  ⟨some 38, .load true 2 (.t 37), some (32, true)⟩,
  ⟨some 39, .load true 2 (.t 4), some (32, true)⟩,
  ⟨some 40, .call false 71 [(.t 38), (.t 39)], some (32, true)⟩,
  ⟨some 41, .un .not (.t 40), some (32, true)⟩,
  ⟨some 42, .pick (.t 32) (.t 41) (.c (.bool false)), some (29, false)⟩,
  ⟨some 43, .pick (.t 29) (.c (.bool true)) (.t 42), none⟩])
 (.cond (.t 43) (.seq (.region 0 [⟨some 2, .mv (.c (.bool false)), none⟩])
 .ret) .skip))))
 (.region 0 [⟨some 12, .mv (.t 3), none⟩,
  ⟨some 13, .bin .add (.t 12) (.c (.int .i64 1)), none⟩,
  ⟨some 3, .mv (.t 13), none⟩])))
def spec_IsValidTransaction_b0 : AC :=
 (.seq (.seq (.region 0 [⟨some 44, .mv (.t 5), none⟩,
  ⟨some 45, .faddr 8 8 (.t 1), none⟩,
  ⟨some 46, .load false 1 (.t 45), none⟩,
  ⟨some 47, .len false (.t 46), none⟩,
  ⟨some 48, .bin .lss (.t 44) (.t 47), none⟩])
 (.cond (.t 48) .skip (.exit 2)))
 (.seq (.block 3 (.seq (.region 0 [⟨some 51, .faddr 8 8 (.t 1), none⟩,
  ⟨some 52, .load false 1 (.t 51), none⟩,
  ⟨some 53, .mv (.t 5), none⟩,
  ⟨some 54, .iaddr 2 (.t 52) (.t 53), none⟩,
  ⟨some 55, .load true 2 (.t 54), none⟩,
  ⟨some 6, .alloc 6 (.agg [(.int .i64 0), (.int .i64 0)]), none⟩,
  ⟨none, .store 2 (.t 6) (.t 55), none⟩])
 (.seq (.region 26 [⟨some 56, .faddr 0 0 (.t 6), none⟩,
  ⟨some 57, .load false 1 (.t 56), none⟩,
  ⟨some 58, .call false 6 [(.t 57), (.c (.int .i64 0)), (.c (.int .i64 5))], none⟩,
  ⟨some 59, .un .not (.t 58), none⟩,
  ⟨some 60, .mv (.t 59), none⟩,
  ⟨some 61, .faddr 1 1 (.t 6), some (60, false)⟩,
  ⟨some 62, .load false 1 (.t 61), some (60, false)⟩,
  ⟨some 63, .call false 6 [(.t 62), (.c (.int .i64 (-1))), (.c (.int .i64 99))], some (60, false)⟩,
  ⟨some 64, .un .not (.t 63), some (60, false)⟩,
  ⟨some 65, .pick (.t 60) (.c (.bool true)) (.t 64), none⟩,
  ⟨some 66, .mv (.t 65), none⟩,
  ⟨some 67, .mv (.t 5), some (66, false)⟩,
  ⟨some 68, .bin .gtr (.t 67) (.c (.int .i64 0)), some (66, false)⟩,
  ⟨some 69, .mv (.t 68), some (66, false)⟩,
  ⟨some 70, .faddr 8 8 (.t 1), some (69, true)⟩,
  ⟨some 71, .load false 1 (.t 70), some (69, true)⟩,
  ⟨some 72, .mv (.t 5), some (69, true)⟩,
  ⟨some 73, .bin .sub (.t 72) (.c (.int .i64 1)), some (69, true)⟩,
  ⟨some 74, .iaddr 2 (.t 71) (.t 73), some (69, true)⟩,
  ⟨some 75, .faddr 0 0 (.t 74), some (69, true)⟩,
  ⟨some 76, .load false 1 (.t 75), some (69, true)⟩,
  ⟨some 77, .faddr 0 0 (.t 6), some (69, true)⟩,
  ⟨some 78, .load false 1 (.t 77), some (69, true)⟩,
  ⟨some 79, .bin .geq (.t 76) (.t 78), some (69, true)⟩,
  ⟨some 80, .pick (.t 69) (.t 79) (.c (.bool false)), some (66, false)⟩,
  ⟨some 81, .pick (.t 66) (.c (.bool true)) (.t 80), none⟩])
 (.cond (.t 81) (.seq (.region 0 [⟨some 2, .mv (.c (.bool false)), none⟩])
 .ret) .skip))))
 (.region 0 [⟨some 49, .mv (.t 5), none⟩,
  ⟨some 50, .bin .add (.t 49) (.c (.int .i64 1)), none⟩,
  ⟨some 5, .mv (.t 50), none⟩])))
def spec_IsValidTransaction_r0 : AC :=
 (.seq (.seq (.region 0 [⟨some 82, .faddr 0 0 (.t 1), none⟩,
  ⟨some 83, .load false 1 (.t 82), none⟩,
  ⟨some 84, .call false 6 [(.t 83), (.c (.int .i64 1)), (.c (.int .i64 9))], none⟩,
  ⟨some 85, .un .not (.t 84), none⟩,
  ⟨some 86, .mv (.t 85), none⟩,
  ⟨some 87, .faddr 1 1 (.t 1), some (86, false)⟩,
  ⟨some 88, .load false 1 (.t 87), some (86, false)⟩,
  ⟨some 89, .call false 6 [(.t 88), (.c (.int .i64 1)), (.c (.int .i64 4))], some (86, false)⟩,
  ⟨some 90, .un .not (.t 89), some (86, false)⟩,
  ⟨some 91, .pick (.t 86) (.c (.bool true)) (.t 90), none⟩,
  ⟨some 92, .mv (.t 91), none⟩,
  ⟨some 93, .faddr 3 3 (.t 1), some (92, false)⟩,
  ⟨some 94, .load false 1 (.t 93), some (92, false)⟩,
  ⟨some 95, .call false 6 [(.t 94), (.c (.int .i64 0)), (.c (.int .i64 999))], some (92, false)⟩,
  ⟨some 96, .un .not (.t 95), some (92, false)⟩,
  ⟨some 97, .pick (.t 92) (.c (.bool true)) (.t 96), none⟩])
 (.cond (.t 97) (.seq (.region 0 [⟨some 2, .mv (.c (.bool false)), none⟩])
 .ret) .skip))
 (.seq (.region 0 [⟨some 98, .faddr 2 2 (.t 1), none⟩,
  ⟨some 99, .load false 1 (.t 98), none⟩,
  ⟨some 100, .call false 6 [(.t 99), (.c (.int .i64 1)), (.c (.int .i64 3))], none⟩,
  ⟨some 101, .mv (.t 100), none⟩,
  ⟨some 102, .faddr 4 4 (.t 1), some (101, true)⟩,
  ⟨some 103, .load false 1 (.t 102), some (101, true)⟩,
  ⟨some 104, .call false 6 [(.t 103), (.c (.int .i64 0)), (.c (.int .i64 999))], some (101, true)⟩,
  ⟨some 105, .pick (.t 101) (.t 104) (.c (.bool false)), none⟩,
  ⟨some 106, .mv (.t 105), none⟩,
  ⟨some 107, .faddr 5 5 (.t 1), some (106, true)⟩,
  ⟨some 108, .load false 1 (.t 107), some (106, true)⟩,
  ⟨some 109, .call false 6 [(.t 108), (.c (.int .i64 1)), (.c (.int .i64 1000))], some (106, true)⟩,
  ⟨some 110, .pick (.t 106) (.t 109) (.c (.bool false)), none⟩,
  ⟨some 111, .mv (.t 110), none⟩,
  ⟨some 112, .faddr 2 2 (.t 1), some (111, true)⟩,
  ⟨some 113, .load false 1 (.t 112), some (111, true)⟩,
  ⟨some 114, .bin .eql (.t 113) (.c (.int .i64 2)), some (111, true)⟩,
  ⟨some 115, .faddr 6 6 (.t 1), some (111, true)⟩,
  ⟨some 116, .load false 1 (.t 115), some (111, true)⟩,
  ⟨some 117, .bin .gtr (.t 116) (.c (.int .i64 0)), some (111, true)⟩,
  ⟨some 118, .eqv false 0 (.t 114) (.t 117), some (111, true)⟩,
  ⟨some 119, .pick (.t 111) (.t 118) (.c (.bool false)), none⟩,
  ⟨some 120, .mv (.t 119), none⟩,
  ⟨some 121, .faddr 6 6 (.t 1), some (120, true)⟩,
  ⟨some 122, .load false 1 (.t 121), some (120, true)⟩,
  ⟨some 123, .call false 6 [(.t 122), (.c (.int .i64 0)), (.c (.int .i64 999))], some (120, true)⟩,
  ⟨some 124, .pick (.t 120) (.t 123) (.c (.bool false)), none⟩,
  ⟨some 125, .mv (.t 124), none⟩,
  ⟨some 126, .faddr 7 7 (.t 1), some (125, true)⟩,
  ⟨some 127, .load false 1 (.t 126), some (125, true)⟩,
  ⟨some 128, .len false (.t 127), some (125, true)⟩,
  ⟨some 129, .bin .leq (.t 128) (.c (.int .i64 60)), some (125, true)⟩,
  ⟨some 130, .pick (.t 125) (.t 129) (.c (.bool false)), none⟩,
  ⟨some 2, .mv (.t 130), none⟩])
 .ret))
def spec_IsValidTransaction_r1 : AC :=
 (.seq (.seq (.region 0 [⟨some 5, .mv (.c (.int .i64 0)), none⟩])
 (.block 2 (.loop ⟨[1, 5], [], [(1, false)]⟩ spec_IsValidTransaction_b0)))
 spec_IsValidTransaction_r0)
def spec_IsValidTransaction_ac : AC :=
 (.seq (.region 0 [⟨some 1, .box false 1 (.t 0), none⟩,
  ⟨some 2, .mv (.c (.bool false)), none⟩])
 (.seq (.seq (.region 0 [⟨some 3, .mv (.c (.int .i64 0)), none⟩])
 (.block 0 (.loop ⟨[1, 3], [], [(1, false)]⟩ spec_IsValidTransaction_b1)))
 spec_IsValidTransaction_r1))
noncomputable def spec_IsValidTransaction_l1 (E : Env) (x3 : U) (b1 : U) : Option U := loopK (roundOf E ⟨[1, 3], [], [(1, false)]⟩ spec_IsValidTransaction_b1 (blockK 0 (seqK (fun s => exec E spec_IsValidTransaction_r1 s (finish [(2, none)])) (finish [(2, none)])))) ([.ptr 1 [], .val x3], [.box (.val b1)])
noncomputable def spec_IsValidTransaction_l0 (E : Env) (x5 : U) (b1 : U) : Option U := loopK (roundOf E ⟨[1, 5], [], [(1, false)]⟩ spec_IsValidTransaction_b0 (blockK 2 (seqK (fun s => exec E spec_IsValidTransaction_r0 s (finish [(2, none)])) (finish [(2, none)])))) ([.ptr 1 [], .val x5], [.box (.val b1)])
theorem spec_IsValidTransaction_eq (E : Env) (a0 : U) : run E spec_IsValidTransaction_ac [(2, none)] [a0] =
 U.noTup a0 fun x1 => spec_IsValidTransaction_l1 E (.int .i64 0) x1 := by kernel_rfl
theorem spec_IsValidTransaction_l1_eq (E : Env) (x3 : U) (b1 : U) : spec_IsValidTransaction_l1 E x3 b1 =
 U.asAgg b1 fun us2 => if 7 = sizes (us2.take 7) then (us2[7]?).bind fun e3 => U.asVar false 1 e3 fun e4 => (U.lenOf false e4).bind fun n5 => (U.bin .lss x3 (.int .i64 (n5 : Int))).bind fun t6 => U.asBool t6
 (U.asAgg b1 fun us7 => if 7 = sizes (us7.take 7) then (us7[7]?).bind fun e8 => U.asVar false 1 e8 fun e9 => U.asInt x3 fun n10 => U.elemAt 2 e9 n10 fun e11 => U.asVar true 2 e11 fun e12 => if storable (.val e12) = true ∧ e12.size = 2 then U.asAgg e12 fun us13 => if 0 = sizes (us13.take 0) then (us13[0]?).bind fun e14 => U.asVar false 1 e14 fun e15 => (E 6 [e15, (.int .i64 0), (.int .i64 5)]).bind fun t16 => (U.un .not t16).bind fun t17 => U.asBool t17
 (some (.bool false))
 (U.asAgg e12 fun us18 => if 1 = sizes (us18.take 1) then (us18[1]?).bind fun e19 => U.asVar false 1 e19 fun e20 => (E 6 [e20, (.int .i64 0), (.int .i64 999)]).bind fun t21 => (U.un .not t21).bind fun t22 => U.asBool t22
 (some (.bool false))
 ((U.bin .gtr x3 (.int .i64 0)).bind fun t23 => U.asBool t23
 (U.asAgg b1 fun us24 => if 7 = sizes (us24.take 7) then (us24[7]?).bind fun e25 => U.asVar false 1 e25 fun e26 => (U.bin .sub x3 (.int .i64 1)).bind fun t27 => U.asInt t27 fun n28 => U.elemAt 2 e26 n28 fun e29 => U.asVar true 2 e29 fun e30 => U.asVar true 2 e12 fun e31 => (E 71 [e30, e31]).bind fun t32 => (U.un .not t32).bind fun t33 => U.asBool t33
 (some (.bool false))
 ((U.bin .add x3 (.int .i64 1)).bind fun t34 => spec_IsValidTransaction_l1 E t34 b1) else none)
 ((U.bin .add x3 (.int .i64 1)).bind fun t35 => spec_IsValidTransaction_l1 E t35 b1)) else none) else none else none else none)
 (spec_IsValidTransaction_l0 E (.int .i64 0) b1) else none :=
 (loop_eq E _ _ _ _).trans (by kernel_rfl)
theorem spec_IsValidTransaction_l0_eq (E : Env) (x5 : U) (b1 : U) : spec_IsValidTransaction_l0 E x5 b1 =
 U.asAgg b1 fun us36 => if 8 = sizes (us36.take 8) then (us36[8]?).bind fun e37 => U.asVar false 1 e37 fun e38 => (U.lenOf false e38).bind fun n39 => (U.bin .lss x5 (.int .i64 (n39 : Int))).bind fun t40 => U.asBool t40
 (U.asAgg b1 fun us41 => if 8 = sizes (us41.take 8) then (us41[8]?).bind fun e42 => U.asVar false 1 e42 fun e43 => U.asInt x5 fun n44 => U.elemAt 2 e43 n44 fun e45 => U.asVar true 2 e45 fun e46 => if storable (.val e46) = true ∧ e46.size = 2 then U.asAgg e46 fun us47 => if 0 = sizes (us47.take 0) then (us47[0]?).bind fun e48 => U.asVar false 1 e48 fun e49 => (E 6 [e49, (.int .i64 0), (.int .i64 5)]).bind fun t50 => (U.un .not t50).bind fun t51 => U.asBool t51
 (some (.bool false))
 (U.asAgg e46 fun us52 => if 1 = sizes (us52.take 1) then (us52[1]?).bind fun e53 => U.asVar false 1 e53 fun e54 => (E 6 [e54, (.int .i64 (-1)), (.int .i64 99)]).bind fun t55 => (U.un .not t55).bind fun t56 => U.asBool t56
 (some (.bool false))
 ((U.bin .gtr x5 (.int .i64 0)).bind fun t57 => U.asBool t57
 (U.asAgg b1 fun us58 => if 8 = sizes (us58.take 8) then (us58[8]?).bind fun e59 => U.asVar false 1 e59 fun e60 => (U.bin .sub x5 (.int .i64 1)).bind fun t61 => U.asInt t61 fun n62 => U.elemAt 2 e60 n62 fun e63 => U.fieldAt 0 0 e63 fun f64 => U.asVar false 1 f64 fun e65 => U.asAgg e46 fun us66 => if 0 = sizes (us66.take 0) then (us66[0]?).bind fun e67 => U.asVar false 1 e67 fun e68 => (U.bin .geq e65 e68).bind fun t69 => U.asBool t69
 (some (.bool false))
 ((U.bin .add x5 (.int .i64 1)).bind fun t70 => spec_IsValidTransaction_l0 E t70 b1) else none else none)
 ((U.bin .add x5 (.int .i64 1)).bind fun t71 => spec_IsValidTransaction_l0 E t71 b1)) else none) else none else none else none)
 (U.asAgg b1 fun us72 => if 0 = sizes (us72.take 0) then (us72[0]?).bind fun e73 => U.asVar false 1 e73 fun e74 => (E 6 [e74, (.int .i64 1), (.int .i64 9)]).bind fun t75 => (U.un .not t75).bind fun t76 => U.asBool t76
 (some (.bool false))
 (U.asAgg b1 fun us77 => if 1 = sizes (us77.take 1) then (us77[1]?).bind fun e78 => U.asVar false 1 e78 fun e79 => (E 6 [e79, (.int .i64 1), (.int .i64 4)]).bind fun t80 => (U.un .not t80).bind fun t81 => U.asBool t81
 (some (.bool false))
 (U.asAgg b1 fun us82 => if 3 = sizes (us82.take 3) then (us82[3]?).bind fun e83 => U.asVar false 1 e83 fun e84 => (E 6 [e84, (.int .i64 0), (.int .i64 999)]).bind fun t85 => (U.un .not t85).bind fun t86 => U.asBool t86
 (some (.bool false))
 (U.asAgg b1 fun us87 => if 2 = sizes (us87.take 2) then (us87[2]?).bind fun e88 => U.asVar false 1 e88 fun e89 => (E 6 [e89, (.int .i64 1), (.int .i64 3)]).bind fun t90 => U.asBool t90
 (U.asAgg b1 fun us91 => if 4 = sizes (us91.take 4) then (us91[4]?).bind fun e92 => U.asVar false 1 e92 fun e93 => (E 6 [e93, (.int .i64 0), (.int .i64 999)]).bind fun t94 => U.asBool t94
 (U.asAgg b1 fun us95 => if 5 = sizes (us95.take 5) then (us95[5]?).bind fun e96 => U.asVar false 1 e96 fun e97 => (E 6 [e97, (.int .i64 1), (.int .i64 1000)]).bind fun t98 => U.asBool t98
 (U.asAgg b1 fun us99 => if 2 = sizes (us99.take 2) then (us99[2]?).bind fun e100 => U.asVar false 1 e100 fun e101 => (U.bin .eql e101 (.int .i64 2)).bind fun t102 => U.asAgg b1 fun us103 => if 6 = sizes (us103.take 6) then (us103[6]?).bind fun e104 => U.asVar false 1 e104 fun e105 => (U.bin .gtr e105 (.int .i64 0)).bind fun t106 => (U.eqv 0 t102 t106).bind fun q107 => U.asBool (.bool q107)
 (U.asAgg b1 fun us108 => if 6 = sizes (us108.take 6) then (us108[6]?).bind fun e109 => U.asVar false 1 e109 fun e110 => (E 6 [e110, (.int .i64 0), (.int .i64 999)]).bind fun t111 => U.asBool t111
 (U.asAgg b1 fun us112 => if 7 = sizes (us112.take 7) then (us112[7]?).bind fun e113 => U.asVar false 1 e113 fun e114 => (U.lenOf false e114).bind fun n115 => (U.bin .leq (.int .i64 (n115 : Int)) (.int .i64 60)).bind fun t116 => some t116 else none)
 (some (.bool false)) else none)
 (some (.bool false)) else none else none)
 (some (.bool false)) else none)
 (some (.bool false)) else none)
 (some (.bool false)) else none) else none) else none) else none) else none :=
 (loop_eq E _ _ _ _).trans (by kernel_rfl)

/-- In the environment E: this function and those that it calls. -/
structure G_spec_IsValidTransaction (E : Env) : Prop where
  is : Is E 70 1 spec_IsValidTransaction_ac [(2, none)]
  c_spec_l1In : G_spec_l1In E
  c_spec_l5Before : G_spec_l5Before E
theorem spec_IsValidTransaction_E {E : Env} (h : G_spec_IsValidTransaction E) (a0 : U) : E 70 [a0] =
 U.noTup a0 fun x1 => spec_IsValidTransaction_l1 E (.int .i64 0) x1 := (h.is _ rfl).trans ((runQ_V rfl).trans (spec_IsValidTransaction_eq E a0))

end Go.Proofs.Ytfdcdbkblkehcaa.Am
namespace Go.Proofs.Ytfdcdbkblkehcaa.Am
open Go
set_option linter.unusedVariables false
set_option maxRecDepth 100000

/- loop.example/g01924/spec.AbortTransaction -/
def spec_AbortTransaction_ac : AC :=
 (.seq (.region 0 [⟨some 1, .box false 1 (.t 0), none⟩,
  ⟨some 2, .alloc 2 (.agg [(.int .i64 0), (.int .i64 0), (.int .i64 0), (.int .i64 0), (.int .i64 0), (.int .i64 0), (.int .i64 0), (.nsl 2), (.nsl 2)]), none⟩,
  ⟨some 3, .mv (.c (.bool false)), none⟩])
 (.seq (.region 0 [⟨some 5, .load true 9 (.t 1), none⟩,
  ⟨some 6, .call false 212 [(.t 5)], none⟩,
  ⟨some 4, .alloc 4 (.agg [(.int .i64 0), (.int .i64 0), (.int .i64 0), (.int .i64 0), (.int .i64 0), (.int .i64 0), (.int .i64 0), (.nsl 2), (.nsl 2)]), none⟩,
  ⟨none, .store 9 (.t 4) (.t 6), none⟩])
 (.seq (.seq (.region 0 [⟨some 7, .load true 9 (.t 1), none⟩,
  ⟨some 8, .call false 70 [(.t 7)], none⟩,
  ⟨some 9, .un .not (.t 8), none⟩,
  ⟨some 10, .mv (.t 9), none⟩,
  ⟨some 11, .faddr 2 2 (.t 1), some (10, false)⟩,
  ⟨some 12, .load false 1 (.t 11), some (10, false)⟩,
  ⟨some 13, .bin .neq (.t 12) (.c (.int .i64 1)), some (10, false)⟩,
  ⟨some 14, .pick (.t 10) (.c (.bool true)) (.t 13), none⟩])
 (.cond (.t 14) (.seq (.region 0 [⟨some 15, .load true 9 (.t 4), none⟩,
  ⟨none, .store 9 (.t 2) (.t 15), none⟩,
  ⟨some 3, .mv (.c (.bool false)), none⟩])
 .ret) .skip))
 (.seq (.region 0 [⟨some 16, .faddr 2 2 (.t 4), none⟩,
  ⟨none, .store 1 (.t 16) (.c (.int .i64 3)), none⟩])
 (.seq (.region 0 [⟨some 17, .load true 9 (.t 4), none⟩,
  ⟨none, .store 9 (.t 2) (.t 17), none⟩,
  ⟨some 3, .mv (.c (.bool true)), none⟩])
 .ret)))))

theorem spec_AbortTransaction_eq (E : Env) (a0 : U) : run E spec_AbortTransaction_ac [(2, some (true, 9)), (3, none)] [a0] =
 U.noTup a0 fun x1 => U.asVar true 9 x1 fun e2 => (E 212 [e2]).bind fun t3 => if storable (.val t3) = true ∧ t3.size = 9 then U.asVar true 9 x1 fun e4 => (E 70 [e4]).bind fun t5 => (U.un .not t5).bind fun t6 => U.asBool t6
 (U.asVar true 9 t3 fun e7 => if storable (.val e7) = true ∧ e7.size = 9 then U.asVar true 9 e7 fun e8 => U.noTup e8 fun x9 => some (.tup [x9, (.bool false)]) else none)
 (U.asAgg x1 fun us10 => if 2 = sizes (us10.take 2) then (us10[2]?).bind fun e11 => U.asVar false 1 e11 fun e12 => (U.bin .neq e12 (.int .i64 1)).bind fun t13 => U.asBool t13
 (U.asVar true 9 t3 fun e14 => if storable (.val e14) = true ∧ e14.size = 9 then U.asVar true 9 e14 fun e15 => U.noTup e15 fun x16 => some (.tup [x16, (.bool false)]) else none)
 (U.asAgg t3 fun us17 => if 2 = sizes (us17.take 2) then (us17[2]?).bind fun e18 => if e18.size = 1 then U.asVar true 9 (.agg (us17.set 2 (.int .i64 3))) fun e19 => if storable (.val e19) = true ∧ e19.size = 9 then U.asVar true 9 e19 fun e20 => U.noTup e20 fun x21 => some (.tup [x21, (.bool true)]) else none else none else none) else none) else none := by kernel_rfl

/-- In the environment E: this function and those that it calls. -/
structure G_spec_AbortTransaction (E : Env) : Prop where
  is : Is E 329 1 spec_AbortTransaction_ac [(2, some (true, 9)), (3, none)]
  c_spec_l5Copy : G_spec_l5Copy E
  c_spec_IsValidTransaction : G_spec_IsValidTransaction E
theorem spec_AbortTransaction_E {E : Env} (h : G_spec_AbortTransaction E) (a0 : U) : E 329 [a0] =
 U.noTup a0 fun x1 => U.asVar true 9 x1 fun e2 => (E 212 [e2]).bind fun t3 => if storable (.val t3) = true ∧ t3.size = 9 then U.asVar true 9 x1 fun e4 => (E 70 [e4]).bind fun t5 => (U.un .not t5).bind fun t6 => U.asBool t6
 (U.asVar true 9 t3 fun e7 => if storable (.val e7) = true ∧ e7.size = 9 then U.asVar true 9 e7 fun e8 => U.noTup e8 fun x9 => some (.tup [x9, (.bool false)]) else none)
 (U.asAgg x1 fun us10 => if 2 = sizes (us10.take 2) then (us10[2]?).bind fun e11 => U.asVar false 1 e11 fun e12 => (U.bin .neq e12 (.int .i64 1)).bind fun t13 => U.asBool t13
 (U.asVar true 9 t3 fun e14 => if storable (.val e14) = true ∧ e14.size = 9 then U.asVar true 9 e14 fun e15 => U.noTup e15 fun x16 => some (.tup [x16, (.bool false)]) else none)
 (U.asAgg t3 fun us17 => if 2 = sizes (us17.take 2) then (us17[2]?).bind fun e18 => if e18.size = 1 then U.asVar true 9 (.agg (us17.set 2 (.int .i64 3))) fun e19 => if storable (.val e19) = true ∧ e19.size = 9 then U.asVar true 9 e19 fun e20 => U.noTup e20 fun x21 => some (.tup [x21, (.bool true)]) else none else none else none) else none) else none := (h.is _ rfl).trans ((runQ_V rfl).trans (spec_AbortTransaction_eq E a0))

end Go.Proofs.Ytfdcdbkblkehcaa.Am
namespace Go.Proofs.Ytfdcdbkblkehcaa.Am
open Go
set_option linter.unusedVariables false
set_option maxRecDepth 100000

/- loop.example/g01924/laws.toReadMark -/
def laws_toReadMark_ac : AC :=
 (.seq (.region 0 [⟨some 1, .box false 1 (.t 0), none⟩,
  ⟨some 2, .alloc 2 (.agg [(.int .i64 0), (.int .i64 0)]), none⟩])
 (.seq (.region 0 [⟨some 3, .alloc 3 (.agg [(.int .i64 0), (.int .i64 0)]), none⟩])
 (.seq (.region 0 [⟨some 4, .faddr 0 0 (.t 1), none⟩,
  ⟨some 5, .load false 1 (.t 4), none⟩,
  ⟨some 6, .faddr 0 0 (.t 3), none⟩,
  ⟨none, .store 1 (.t 6) (.t 5), none⟩])
 (.seq (.region 0 [⟨some 7, .faddr 1 1 (.t 1), none⟩,
  ⟨some 8, .load false 1 (.t 7), none⟩,
  ⟨some 9, .faddr 1 1 (.t 3), none⟩,
  ⟨none, .store 1 (.t 9) (.t 8), none⟩])
 (.seq (.region 0 [⟨some 10, .load true 2 (.t 3), none⟩,
  ⟨none, .store 2 (.t 2) (.t 10), none⟩])
 .ret)))))

theorem laws_toReadMark_eq (E : Env) (a0 : U) : run E laws_toReadMark_ac [(2, some (true, 2))] [a0] =
 U.noTup a0 fun x1 => U.asAgg x1 fun us2 => if 0 = sizes (us2.take 0) then (us2[0]?).bind fun e3 => U.asVar false 1 e3 fun e4 => if storable (.val e4) = true ∧ e4.size = 1 then U.asAgg x1 fun us5 => if 1 = sizes (us5.take 1) then (us5[1]?).bind fun e6 => U.asVar false 1 e6 fun e7 => if storable (.val e7) = true ∧ e7.size = 1 then if 1 = sizes [e4] then U.asVar true 2 (.agg [e4, e7]) fun e8 => if storable (.val e8) = true ∧ e8.size = 2 then U.asVar true 2 e8 fun e9 => some e9 else none else none else none else none else none else none := by kernel_rfl

/-- In the environment E: this function and those that it calls. -/
structure G_laws_toReadMark (E : Env) : Prop where
  is : Is E 29 1 laws_toReadMark_ac [(2, some (true, 2))]
theorem laws_toReadMark_E {E : Env} (h : G_laws_toReadMark E) (a0 : U) : E 29 [a0] =
 U.noTup a0 fun x1 => U.asAgg x1 fun us2 => if 0 = sizes (us2.take 0) then (us2[0]?).bind fun e3 => U.asVar false 1 e3 fun e4 => if storable (.val e4) = true ∧ e4.size = 1 then U.asAgg x1 fun us5 => if 1 = sizes (us5.take 1) then (us5[1]?).bind fun e6 => U.asVar false 1 e6 fun e7 => if storable (.val e7) = true ∧ e7.size = 1 then if 1 = sizes [e4] then U.asVar true 2 (.agg [e4, e7]) fun e8 => if storable (.val e8) = true ∧ e8.size = 2 then U.asVar true 2 e8 fun e9 => some e9 else none else none else none else none else none else none := (h.is _ rfl).trans ((runQ_V rfl).trans (laws_toReadMark_eq E a0))

end Go.Proofs.Ytfdcdbkblkehcaa.Am
namespace Go.Proofs.Ytfdcdbkblkehcaa.Am
open Go
set_option linter.unusedVariables false
set_option maxRecDepth 100000

/- loop.example/g01924/laws.toReadMarkS -/
def laws_toReadMarkS_b0 : AC :=
 (.seq (.seq (.region 0 [⟨some 8, .mv (.t 4), none⟩,
  ⟨some 9, .mv (.t 0), none⟩,
  ⟨some 10, .len false (.t 9), none⟩,
  ⟨some 11, .bin .lss (.t 8) (.t 10), none⟩])
 (.cond (.t 11) .skip (.exit 0)))
 (.seq (.block 1 (.region 0 [⟨some 14, .mv (.t 3), none⟩,
  ⟨some 15, .mv (.t 4), none⟩,
  ⟨some 16, .mv (.t 0), none⟩,
  ⟨some 17, .mv (.t 4), none⟩,
  ⟨some 18, .iaddr 2 (.t 16) (.t 17), none⟩,
  ⟨some 19, .load true 2 (.t 18), none⟩,
  ⟨some 20, .call false 29 [(.t 19)], none⟩,
  ⟨some 21, .iaddr 2 (.t 14) (.t 15), none⟩,
  ⟨none, .store 2 (.t 21) (.t 20), none⟩]))
 (.region 0 [⟨some 12, .mv (.t 4), none⟩,
  ⟨some 13, .bin .add (.t 12) (.c (.int .i64 1)), none⟩,
  ⟨some 4, .mv (.t 13), none⟩])))
def laws_toReadMarkS_r0 : AC :=
 (.seq (.region 0 [⟨some 22, .mv (.t 3), none⟩,
  ⟨some 2, .mv (.t 22), none⟩])
 .ret)
def laws_toReadMarkS_ac : AC :=
 (.seq (.region 0 [⟨some 2, .mv (.c (.nsl 2)), none⟩])
 (.seq (.region 0 [⟨some 5, .mv (.t 0), none⟩,
  ⟨some 6, .len false (.t 5), none⟩,
  ⟨some 7, .mkslice 7 2 16 (.agg [(.int .i64 0), (.int .i64 0)]) (.t 6) (.t 6), none⟩,
  ⟨some 3, .mv (.t 7), none⟩])
 (.seq (.seq (.region 0 [⟨some 4, .mv (.c (.int .i64 0)), none⟩])
 (.block 0 (.loop ⟨[0, 4], [(3, 2, false)], []⟩ laws_toReadMarkS_b0)))
 laws_toReadMarkS_r0)))
noncomputable def laws_toReadMarkS_l0 (E : Env) (x0 : U) (x4 : U) (c3 : List U) : Option U := loopK (roundOf E ⟨[0, 4], [(3, 2, false)], []⟩ laws_toReadMarkS_b0 (blockK 0 (seqK (fun s => exec E laws_toReadMarkS_r0 s (finish [(2, none)])) (finish [(2, none)])))) ([.val x0, .val x4], [.vir (.asl 2 c3)])
theorem laws_toReadMarkS_eq (E : Env) (a0 : U) : run E laws_toReadMarkS_ac [(2, none)] [a0] =
 (U.lenOf false a0).bind fun n1 => if 0 ≤ (n1 : Int) ∧ (n1 : Int) ≤ (n1 : Int) ∧ (n1 : Int) * 16 ≤ 140737488355328 ∧ ((.agg [(.int .i64 0), (.int .i64 0)]) : U).size = 2 then laws_toReadMarkS_l0 E a0 (.int .i64 0) (List.replicate ((n1 : Int) : Int).toNat (.agg [(.int .i64 0), (.int .i64 0)])) else none := by kernel_rfl
theorem laws_toReadMarkS_l0_eq (E : Env) (x0 : U) (x4 : U) (c3 : List U) : laws_toReadMarkS_l0 E x0 x4 c3 =
 (U.lenOf false x0).bind fun n2 => (U.bin .lss x4 (.int .i64 (n2 : Int))).bind fun t3 => U.asBool t3
 (U.asInt x4 fun n4 => U.elemAt 2 x0 n4 fun e5 => U.asVar true 2 e5 fun e6 => (E 29 [e6]).bind fun t7 => U.asInt x4 fun n8 => if 2 = 2 ∧ 0 ≤ n8 ∧ n8 < ((c3).length : Int) then if storable (.val t7) = true ∧ t7.size = 2 then (c3[(n8 : Int).toNat]?).bind fun e9 => if e9.size = 2 then (U.bin .add x4 (.int .i64 1)).bind fun t10 => laws_toReadMarkS_l0 E x0 t10 (c3.set (n8 : Int).toNat t7) else none else none else none)
 (some (.sl 2 c3)) :=
 (loop_eq E _ _ _ _).trans (by kernel_rfl)

/-- In the environment E: this function and those that it calls. -/
structure G_laws_toReadMarkS (E : Env) : Prop where
  is : Is E 28 1 laws_toReadMarkS_ac [(2, none)]
  c_laws_toReadMark : G_laws_toReadMark E
theorem laws_toReadMarkS_E {E : Env} (h : G_laws_toReadMarkS E) (a0 : U) : E 28 [a0] =
 (U.lenOf false a0).bind fun n1 => if 0 ≤ (n1 : Int) ∧ (n1 : Int) ≤ (n1 : Int) ∧ (n1 : Int) * 16 ≤ 140737488355328 ∧ ((.agg [(.int .i64 0), (.int .i64 0)]) : U).size = 2 then laws_toReadMarkS_l0 E a0 (.int .i64 0) (List.replicate ((n1 : Int) : Int).toNat (.agg [(.int .i64 0), (.int .i64 0)])) else none := (h.is _ rfl).trans ((runQ_V rfl).trans (laws_toReadMarkS_eq E a0))

end Go.Proofs.Ytfdcdbkblkehcaa.Am
namespace Go.Proofs.Ytfdcdbkblkehcaa.Am
open Go
set_option linter.unusedVariables false
set_option maxRecDepth 100000

/- loop.example/g01924/laws.toWrite -/
def laws_toWrite_ac : AC :=
 (.seq (.region 0 [⟨some 1, .box false 1 (.t 0), none⟩,
  ⟨some 2, .alloc 2 (.agg [(.int .i64 0), (.int .i64 0)]), none⟩])
 (.seq (.region 0 [⟨some 3, .alloc 3 (.agg [(.int .i64 0), (.int .i64 0)]), none⟩])
 (.seq (.region 0 [⟨some 4, .faddr 0 0 (.t 1), none⟩,
  ⟨some 5, .load false 1 (.t 4), none⟩,
  ⟨some 6, .faddr 0 0 (.t 3), none⟩,
  ⟨none, .store 1 (.t 6) (.t 5), none⟩])
 (.seq (.region 0 [⟨some 7, .faddr 1 1 (.t 1), none⟩,
  ⟨some 8, .load false 1 (.t 7), none⟩,
  ⟨some 9, .faddr 1 1 (.t 3), none⟩,
  ⟨none, .store 1 (.t 9) (.t 8), none⟩])
 (.seq (.region 0 [⟨some 10, .load true 2 (.t 3), none⟩,
  ⟨none, .store 2 (.t 2) (.t 10), none⟩])
 .ret)))))

theorem laws_toWrite_eq (E : Env) (a0 : U) : run E laws_toWrite_ac [(2, some (true, 2))] [a0] =
 U.noTup a0 fun x1 => U.asAgg x1 fun us2 => if 0 = sizes (us2.take 0) then (us2[0]?).bind fun e3 => U.asVar false 1 e3 fun e4 => if storable (.val e4) = true ∧ e4.size = 1 then U.asAgg x1 fun us5 => if 1 = sizes (us5.take 1) then (us5[1]?).bind fun e6 => U.asVar false 1 e6 fun e7 => if storable (.val e7) = true ∧ e7.size = 1 then if 1 = sizes [e4] then U.asVar true 2 (.agg [e4, e7]) fun e8 => if storable (.val e8) = true ∧ e8.size = 2 then U.asVar true 2 e8 fun e9 => some e9 else none else none else none else none else none else none := by kernel_rfl

/-- In the environment E: this function and those that it calls. -/
structure G_laws_toWrite (E : Env) : Prop where
  is : Is E 30 1 laws_toWrite_ac [(2, some (true, 2))]
theorem laws_toWrite_E {E : Env} (h : G_laws_toWrite E) (a0 : U) : E 30 [a0] =
 U.noTup a0 fun x1 => U.asAgg x1 fun us2 => if 0 = sizes (us2.take 0) then (us2[0]?).bind fun e3 => U.asVar false 1 e3 fun e4 => if storable (.val e4) = true ∧ e4.size = 1 then U.asAgg x1 fun us5 => if 1 = sizes (us5.take 1) then (us5[1]?).bind fun e6 => U.asVar false 1 e6 fun e7 => if storable (.val e7) = true ∧ e7.size = 1 then if 1 = sizes [e4] then U.asVar true 2 (.agg [e4, e7]) fun e8 => if storable (.val e8) = true ∧ e8.size = 2 then U.asVar true 2 e8 fun e9 => some e9 else none else none else none else none else none else none := (h.is _ rfl).trans ((runQ_V rfl).trans (laws_toWrite_eq E a0))

end Go.Proofs.Ytfdcdbkblkehcaa.Am
namespace Go.Proofs.Ytfdcdbkblkehcaa.Am
open Go
set_option linter.unusedVariables false
set_option maxRecDepth 100000

/- loop.example/g01924/laws.toWriteS -/
def laws_toWriteS_b0 : AC :=
 (.seq (.seq (.region 0 [⟨some 8, .mv (.t 4), none⟩,
  ⟨some 9, .mv (.t 0), none⟩,
  ⟨some 10, .len false (.t 9), none⟩,
  ⟨some 11, .bin .lss (.t 8) (.t 10), none⟩])
 (.cond (.t 11) .skip (.exit 0)))
 (.seq (.block 1 (.region 0 [⟨some 14, .mv (.t 3), none⟩,
  ⟨some 15, .mv (.t 4), none⟩,
  ⟨some 16, .mv (.t 0), none⟩,
  ⟨some 17, .mv (.t 4), none⟩,
  ⟨some 18, .iaddr 2 (.t 16) (.t 17), none⟩,
  ⟨some 19, .load true 2 (.t 18), none⟩,
  ⟨some 20, .call false 30 [(.t 19)], none⟩,
  ⟨some 21, .iaddr 2 (.t 14) (.t 15), none⟩,
  ⟨none, .store 2 (.t 21) (.t 20), none⟩]))
 (.region 0 [⟨some 12, .mv (.t 4), none⟩,
  ⟨some 13, .bin .add (.t 12) (.c (.int .i64 1)), none⟩,
  ⟨some 4, .mv (.t 13), none⟩])))
def laws_toWriteS_r0 : AC :=
 (.seq (.region 0 [⟨some 22, .mv (.t 3), none⟩,
  ⟨some 2, .mv (.t 22), none⟩])
 .ret)
def laws_toWriteS_ac : AC :=
 (.seq (.region 0 [⟨some 2, .mv (.c (.nsl 2)), none⟩])
 (.seq (.region 0 [⟨some 5, .mv (.t 0), none⟩,
  ⟨some 6, .len false (.t 5), none⟩,
  ⟨some 7, .mkslice 7 2 16 (.agg [(.int .i64 0), (.int .i64 0)]) (.t 6) (.t 6), none⟩,
  ⟨some 3, .mv (.t 7), none⟩])
 (.seq (.seq (.region 0 [⟨some 4, .mv (.c (.int .i64 0)), none⟩])
 (.block 0 (.loop ⟨[0, 4], [(3, 2, false)], []⟩ laws_toWriteS_b0)))
 laws_toWriteS_r0)))
noncomputable def laws_toWriteS_l0 (E : Env) (x0 : U) (x4 : U) (c3 : List U) : Option U := loopK (roundOf E ⟨[0, 4], [(3, 2, false)], []⟩ laws_toWriteS_b0 (blockK 0 (seqK (fun s => exec E laws_toWriteS_r0 s (finish [(2, none)])) (finish [(2, none)])))) ([.val x0, .val x4], [.vir (.asl 2 c3)])
theorem laws_toWriteS_eq (E : Env) (a0 : U) : run E laws_toWriteS_ac [(2, none)] [a0] =
 (U.lenOf false a0).bind fun n1 => if 0 ≤ (n1 : Int) ∧ (n1 : Int) ≤ (n1 : Int) ∧ (n1 : Int) * 16 ≤ 140737488355328 ∧ ((.agg [(.int .i64 0), (.int .i64 0)]) : U).size = 2 then laws_toWriteS_l0 E a0 (.int .i64 0) (List.replicate ((n1 : Int) : Int).toNat (.agg [(.int .i64 0), (.int .i64 0)])) else none := by kernel_rfl
theorem laws_toWriteS_l0_eq (E : Env) (x0 : U) (x4 : U) (c3 : List U) : laws_toWriteS_l0 E x0 x4 c3 =
 (U.lenOf false x0).bind fun n2 => (U.bin .lss x4 (.int .i64 (n2 : Int))).bind fun t3 => U.asBool t3
 (U.asInt x4 fun n4 => U.elemAt 2 x0 n4 fun e5 => U.asVar true 2 e5 fun e6 => (E 30 [e6]).bind fun t7 => U.asInt x4 fun n8 => if 2 = 2 ∧ 0 ≤ n8 ∧ n8 < ((c3).length : Int) then if storable (.val t7) = true ∧ t7.size = 2 then (c3[(n8 : Int).toNat]?).bind fun e9 => if e9.size = 2 then (U.bin .add x4 (.int .i64 1)).bind fun t10 => laws_toWriteS_l0 E x0 t10 (c3.set (n8 : Int).toNat t7) else none else none else none)
 (some (.sl 2 c3)) :=
 (loop_eq E _ _ _ _).trans (by kernel_rfl)

/-- In the environment E: this function and those that it calls. -/
structure G_laws_toWriteS (E : Env) : Prop where
  is : Is E 27 1 laws_toWriteS_ac [(2, none)]
  c_laws_toWrite : G_laws_toWrite E
theorem laws_toWriteS_E {E : Env} (h : G_laws_toWriteS E) (a0 : U) : E 27 [a0] =
 (U.lenOf false a0).bind fun n1 => if 0 ≤ (n1 : Int) ∧ (n1 : Int) ≤ (n1 : Int) ∧ (n1 : Int) * 16 ≤ 140737488355328 ∧ ((.agg [(.int .i64 0), (.int .i64 0)]) : U).size = 2 then laws_toWriteS_l0 E a0 (.int .i64 0) (List.replicate ((n1 : Int) : Int).toNat (.agg [(.int .i64 0), (.int .i64 0)])) else none := (h.is _ rfl).trans ((runQ_V rfl).trans (laws_toWriteS_eq E a0))

end Go.Proofs.Ytfdcdbkblkehcaa.Am
namespace Go.Proofs.Ytfdcdbkblkehcaa.Am
open Go
set_option linter.unusedVariables false
set_option maxRecDepth 100000

/- loop.example/g01924/laws.toTransaction -/
def laws_toTransaction_ac : AC :=
 (.seq (.region 0 [⟨some 1, .box false 1 (.t 0), none⟩,
  ⟨some 2, .alloc 2 (.agg [(.int .i64 0), (.int .i64 0), (.int .i64 0), (.int .i64 0), (.int .i64 0), (.int .i64 0), (.int .i64 0), (.nsl 2), (.nsl 2)]), none⟩])
 (.seq (.region 0 [⟨some 3, .alloc 3 (.agg [(.int .i64 0), (.int .i64 0), (.int .i64 0), (.int .i64 0), (.int .i64 0), (.int .i64 0), (.int .i64 0), (.nsl 2), (.nsl 2)]), none⟩])
 (.seq (.region 0 [⟨some 4, .faddr 0 0 (.t 1), none⟩,
  ⟨some 5, .load false 1 (.t 4), none⟩,
  ⟨some 6, .faddr 0 0 (.t 3), none⟩,
  ⟨none, .store 1 (.t 6) (.t 5), none⟩])
 (.seq (.region 0 [⟨some 7, .faddr 1 1 (.t 1), none⟩,
  ⟨some 8, .load false 1 (.t 7), none⟩,
  ⟨some 9, .faddr 1 1 (.t 3), none⟩,
  ⟨none, .store 1 (.t 9) (.t 8), none⟩])
 (.seq (.region 0 [⟨some 10, .faddr 2 2 (.t 1), none⟩,
  ⟨some 11, .load false 1 (.t 10), none⟩,
  ⟨some 12, .faddr 2 2 (.t 3), none⟩,
  ⟨none, .store 1 (.t 12) (.t 11), none⟩])
 (.seq (.region 0 [⟨some 13, .faddr 3 3 (.t 1), none⟩,
  ⟨some 14, .load false 1 (.t 13), none⟩,
  ⟨some 15, .faddr 3 3 (.t 3), none⟩,
  ⟨none, .store 1 (.t 15) (.t 14), none⟩])
 (.seq (.region 0 [⟨some 16, .faddr 4 4 (.t 1), none⟩,
  ⟨some 17, .load false 1 (.t 16), none⟩,
  ⟨some 18, .faddr 4 4 (.t 3), none⟩,
  ⟨none, .store 1 (.t 18) (.t 17), none⟩])
 (.seq (.region 0 [⟨some 19, .faddr 5 5 (.t 1), none⟩,
  ⟨some 20, .load false 1 (.t 19), none⟩,
  ⟨some 21, .faddr 5 5 (.t 3), none⟩,
  ⟨none, .store 1 (.t 21) (.t 20), none⟩])
 (.seq (.region 0 [⟨some 22, .faddr 6 6 (.t 1), none⟩,
  ⟨some 23, .load false 1 (.t 22), none⟩,
  ⟨some 24, .faddr 6 6 (.t 3), none⟩,
  ⟨none, .store 1 (.t 24) (.t 23), none⟩])
 (.seq (.region 0 [⟨some 25, .faddr 7 7 (.t 1), none⟩,
  ⟨some 26, .load false 1 (.t 25), none⟩,
  ⟨some 27, .call false 28 [(.t 26)], none⟩,
  ⟨some 28, .faddr 7 7 (.t 3), none⟩,
  ⟨none, .store 1 (.t 28) (.t 27), none⟩])
 (.seq (.region 0 [⟨some 29, .faddr 8 8 (.t 1), none⟩,
  ⟨some 30, .load false 1 (.t 29), none⟩,
  ⟨some 31, .call false 27 [(.t 30)], none⟩,
  ⟨some 32, .faddr 8 8 (.t 3), none⟩,
  ⟨none, .store 1 (.t 32) (.t 31), none⟩])
 (.seq (.region 0 [⟨some 33, .load true 9 (.t 3), none⟩,
  ⟨none, .store 9 (.t 2) (.t 33), none⟩])
 .ret))))))))))))

theorem laws_toTransaction_eq (E : Env) (a0 : U) : run E laws_toTransaction_ac [(2, some (true, 9))] [a0] =
 U.noTup a0 fun x1 => U.asAgg x1 fun us2 => if 0 = sizes (us2.take 0) then (us2[0]?).bind fun e3 => U.asVar false 1 e3 fun e4 => if storable (.val e4) = true ∧ e4.size = 1 then U.asAgg x1 fun us5 => if 1 = sizes (us5.take 1) then (us5[1]?).bind fun e6 => U.asVar false 1 e6 fun e7 => if storable (.val e7) = true ∧ e7.size = 1 then if 1 = sizes [e4] then U.asAgg x1 fun us8 => if 2 = sizes (us8.take 2) then (us8[2]?).bind fun e9 => U.asVar false 1 e9 fun e10 => if storable (.val e10) = true ∧ e10.size = 1 then if 2 = sizes [e4, e7] then U.asAgg x1 fun us11 => if 3 = sizes (us11.take 3) then (us11[3]?).bind fun e12 => U.asVar false 1 e12 fun e13 => if storable (.val e13) = true ∧ e13.size = 1 then if 3 = sizes [e4, e7, e10] then U.asAgg x1 fun us14 => if 4 = sizes (us14.take 4) then (us14[4]?).bind fun e15 => U.asVar false 1 e15 fun e16 => if storable (.val e16) = true ∧ e16.size = 1 then if 4 = sizes [e4, e7, e10, e13] then U.asAgg x1 fun us17 => if 5 = sizes (us17.take 5) then (us17[5]?).bind fun e18 => U.asVar false 1 e18 fun e19 => if storable (.val e19) = true ∧ e19.size = 1 then if 5 = sizes [e4, e7, e10, e13, e16] then U.asAgg x1 fun us20 => if 6 = sizes (us20.take 6) then (us20[6]?).bind fun e21 => U.asVar false 1 e21 fun e22 => if storable (.val e22) = true ∧ e22.size = 1 then if 6 = sizes [e4, e7, e10, e13, e16, e19] then U.asAgg x1 fun us23 => if 7 = sizes (us23.take 7) then (us23[7]?).bind fun e24 => U.asVar false 1 e24 fun e25 => (E 28 [e25]).bind fun t26 => if storable (.val t26) = true ∧ t26.size = 1 then if 7 = sizes [e4, e7, e10, e13, e16, e19, e22] then U.asAgg x1 fun us27 => if 8 = sizes (us27.take 8) then (us27[8]?).bind fun e28 => U.asVar false 1 e28 fun e29 => (E 27 [e29]).bind fun t30 => if storable (.val t30) = true ∧ t30.size = 1 then if 8 = sizes [e4, e7, e10, e13, e16, e19, e22, t26] then U.asVar true 9 (.agg [e4, e7, e10, e13, e16, e19, e22, t26, t30]) fun e31 => if storable (.val e31) = true ∧ e31.size = 9 then U.asVar true 9 e31 fun e32 => some e32 else none else none else none else none else none else none else none else none else none else none else none else none else none else none else none else none else none else none else none else none else none else none else none else none else none else none else none := by kernel_rfl

/-- In the environment E: this function and those that it calls. -/
structure G_laws_toTransaction (E : Env) : Prop where
  is : Is E 145 1 laws_toTransaction_ac [(2, some (true, 9))]
  c_laws_toReadMarkS : G_laws_toReadMarkS E
  c_laws_toWriteS : G_laws_toWriteS E
theorem laws_toTransaction_E {E : Env} (h : G_laws_toTransaction E) (a0 : U) : E 145 [a0] =
 U.noTup a0 fun x1 => U.asAgg x1 fun us2 => if 0 = sizes (us2.take 0) then (us2[0]?).bind fun e3 => U.asVar false 1 e3 fun e4 => if storable (.val e4) = true ∧ e4.size = 1 then U.asAgg x1 fun us5 => if 1 = sizes (us5.take 1) then (us5[1]?).bind fun e6 => U.asVar false 1 e6 fun e7 => if storable (.val e7) = true ∧ e7.size = 1 then if 1 = sizes [e4] then U.asAgg x1 fun us8 => if 2 = sizes (us8.take 2) then (us8[2]?).bind fun e9 => U.asVar false 1 e9 fun e10 => if storable (.val e10) = true ∧ e10.size = 1 then if 2 = sizes [e4, e7] then U.asAgg x1 fun us11 => if 3 = sizes (us11.take 3) then (us11[3]?).bind fun e12 => U.asVar false 1 e12 fun e13 => if storable (.val e13) = true ∧ e13.size = 1 then if 3 = sizes [e4, e7, e10] then U.asAgg x1 fun us14 => if 4 = sizes (us14.take 4) then (us14[4]?).bind fun e15 => U.asVar false 1 e15 fun e16 => if storable (.val e16) = true ∧ e16.size = 1 then if 4 = sizes [e4, e7, e10, e13] then U.asAgg x1 fun us17 => if 5 = sizes (us17.take 5) then (us17[5]?).bind fun e18 => U.asVar false 1 e18 fun e19 => if storable (.val e19) = true ∧ e19.size = 1 then if 5 = sizes [e4, e7, e10, e13, e16] then U.asAgg x1 fun us20 => if 6 = sizes (us20.take 6) then (us20[6]?).bind fun e21 => U.asVar false 1 e21 fun e22 => if storable (.val e22) = true ∧ e22.size = 1 then if 6 = sizes [e4, e7, e10, e13, e16, e19] then U.asAgg x1 fun us23 => if 7 = sizes (us23.take 7) then (us23[7]?).bind fun e24 => U.asVar false 1 e24 fun e25 => (E 28 [e25]).bind fun t26 => if storable (.val t26) = true ∧ t26.size = 1 then if 7 = sizes [e4, e7, e10, e13, e16, e19, e22] then U.asAgg x1 fun us27 => if 8 = sizes (us27.take 8) then (us27[8]?).bind fun e28 => U.asVar false 1 e28 fun e29 => (E 27 [e29]).bind fun t30 => if storable (.val t30) = true ∧ t30.size = 1 then if 8 = sizes [e4, e7, e10, e13, e16, e19, e22, t26] then U.asVar true 9 (.agg [e4, e7, e10, e13, e16, e19, e22, t26, t30]) fun e31 => if storable (.val e31) = true ∧ e31.size = 9 then U.asVar true 9 e31 fun e32 => some e32 else none else none else none else none else none else none else none else none else none else none else none else none else none else none else none else none else none else none else none else none else none else none else none else none else none else none else none := (h.is _ rfl).trans ((runQ_V rfl).trans (laws_toTransaction_eq E a0))

end Go.Proofs.Ytfdcdbkblkehcaa.Am
namespace Go.Proofs.Ytfdcdbkblkehcaa.Am
open Go
set_option linter.unusedVariables false
set_option maxRecDepth 100000

/- slices.Clone[[]loop.example/g01924/impl.ReadMark,loop.example/g01924/impl.ReadMark] -/
def slices_Clone_g224_ac : AC :=
 (.seq (.region 0 [⟨some 2, .mv (.c (.nsl 2)), none⟩])
 (.seq (.seq (.region 0 [⟨some 3, .mv (.t 0), none⟩,
  ⟨some 4, .eqnil false (.t 3), none⟩])
 (.cond (.t 4) (.seq (.region 0 [⟨some 2, .mv (.c (.nsl 2)), none⟩])
 .ret) .skip))
 (.seq (.region 0 [⟨some 5, .bslice 1 5 2 0 (.agg [(.int .i64 0), (.int .i64 0)]) [], none⟩,
  ⟨some 6, .mv (.t 0), none⟩,
  ⟨some 7, .append false 7 2 16 (.t 5) (.t 6), none⟩,
  ⟨some 2, .mv (.t 7), none⟩])
 .ret)))
theorem slices_Clone_g224_eq (E : Env) (a0 : U) : run E slices_Clone_g224_ac [(2, none)] [a0] =
 (U.isNil a0).bind fun q1 => U.asBool (.bool q1)
 (some (.nsl 2))
 ((U.elems 2 a0).bind fun ys2 => if 2 = 2 ∧ 2 = 2 ∧ ((([] : List U)).length + (ys2 : List U).length) * 16 ≤ 140737488355328 then some (.sl 2 (([] : List U) ++ ys2)) else none) := by kernel_rfl
theorem slices_Clone_g224_F_eq (E : Env) (a0 : U) : exec E slices_Clone_g224_ac (start [a0]) (finishF [(2, none)]) =
 (U.isNil a0).bind fun q1 => U.asBool (.bool q1)
 (some (.sl 2 []))
 ((U.elems 2 a0).bind fun ys2 => if 2 = 2 ∧ 2 = 2 ∧ ((([] : List U)).length + (ys2 : List U).length) * 16 ≤ 140737488355328 then if U.flat.flats (([] : List U) ++ ys2) = true then some (.sl 2 (([] : List U) ++ ys2)) else none else none) := by kernel_rfl

theorem slices_Clone_g224_ok : CloneOK slices_Clone_g224_ac 2 16 where
  v := fun E u us h => by
    rw [slices_Clone_g224_eq]
    simp [U.isNil, U.elems, h]
  f := fun E u us h hf => by
    rw [slices_Clone_g224_F_eq]
    simp [U.isNil, U.elems, h, hf]
  vn := fun E => by kernel_rfl
  fn := fun E => by kernel_rfl
  vt := fun E => by kernel_rfl
  vf := fun E => by kernel_rfl
  ft := fun E => by kernel_rfl
  ff := fun E => by kernel_rfl

end Go.Proofs.Ytfdcdbkblkehcaa.Am
namespace Go.Proofs.Ytfdcdbkblkehcaa.Am
open Go
set_option linter.unusedVariables false
set_option maxRecDepth 100000

/- slices.Clone[[]loop.example/g01924/impl.Write,loop.example/g01924/impl.Write] -/
def slices_Clone_g225_ac : AC :=
 (.seq (.region 0 [⟨some 2, .mv (.c (.nsl 2)), none⟩])
 (.seq (.seq (.region 0 [⟨some 3, .mv (.t 0), none⟩,
  ⟨some 4, .eqnil false (.t 3), none⟩])
 (.cond (.t 4) (.seq (.region 0 [⟨some 2, .mv (.c (.nsl 2)), none⟩])
 .ret) .skip))
 (.seq (.region 0 [⟨some 5, .bslice 1 5 2 0 (.agg [(.int .i64 0), (.int .i64 0)]) [], none⟩,
  ⟨some 6, .mv (.t 0), none⟩,
  ⟨some 7, .append false 7 2 16 (.t 5) (.t 6), none⟩,
  ⟨some 2, .mv (.t 7), none⟩])
 .ret)))
theorem slices_Clone_g225_eq (E : Env) (a0 : U) : run E slices_Clone_g225_ac [(2, none)] [a0] =
 (U.isNil a0).bind fun q1 => U.asBool (.bool q1)
 (some (.nsl 2))
 ((U.elems 2 a0).bind fun ys2 => if 2 = 2 ∧ 2 = 2 ∧ ((([] : List U)).length + (ys2 : List U).length) * 16 ≤ 140737488355328 then some (.sl 2 (([] : List U) ++ ys2)) else none) := by kernel_rfl
theorem slices_Clone_g225_F_eq (E : Env) (a0 : U) : exec E slices_Clone_g225_ac (start [a0]) (finishF [(2, none)]) =
 (U.isNil a0).bind fun q1 => U.asBool (.bool q1)
 (some (.sl 2 []))
 ((U.elems 2 a0).bind fun ys2 => if 2 = 2 ∧ 2 = 2 ∧ ((([] : List U)).length + (ys2 : List U).length) * 16 ≤ 140737488355328 then if U.flat.flats (([] : List U) ++ ys2) = true then some (.sl 2 (([] : List U) ++ ys2)) else none else none) := by kernel_rfl

theorem slices_Clone_g225_ok : CloneOK slices_Clone_g225_ac 2 16 where
  v := fun E u us h => by
    rw [slices_Clone_g225_eq]
    simp [U.isNil, U.elems, h]
  f := fun E u us h hf => by
    rw [slices_Clone_g225_F_eq]
    simp [U.isNil, U.elems, h, hf]
  vn := fun E => by kernel_rfl
  fn := fun E => by kernel_rfl
  vt := fun E => by kernel_rfl
  vf := fun E => by kernel_rfl
  ft := fun E => by kernel_rfl
  ff := fun E => by kernel_rfl

end Go.Proofs.Ytfdcdbkblkehcaa.Am
namespace Go.Proofs.Ytfdcdbkblkehcaa.Am
open Go
set_option linter.unusedVariables false
set_option maxRecDepth 100000

/- (loop.example/g01924/impl.Transaction).copied -/
def impl_Transaction_copied_ac : AC :=
 (.seq (.region 0 [⟨some 1, .box false 1 (.t 0), none⟩,
  ⟨some 2, .alloc 2 (.agg [(.int .i64 0), (.int .i64 0), (.int .i64 0), (.int .i64 0), (.int .i64 0), (.int .i64 0), (.int .i64 0), (.nsl 2), (.nsl 2)]), none⟩])
 (.seq (.region 7 [⟨some 3, .faddr 7 7 (.t 1), none⟩,
  ⟨some 4, .load false 1 (.t 3), none⟩,
  ⟨some 5, .call false 224 [(.t 4)], none⟩,
  ⟨some 6, .faddr 8 8 (.t 1), none⟩,
  ⟨some 7, .load false 1 (.t 6), none⟩,
  ⟨some 8, .call false 225 [(.t 7)], none⟩,
  ⟨some 9, .faddr 7 7 (.t 1), none⟩,
  ⟨none, .store 1 (.t 9) (.t 5), none⟩,
  ⟨some 10, .faddr 8 8 (.t 1), none⟩,
  ⟨none, .store 1 (.t 10) (.t 8), none⟩])
 (.seq (.region 0 [⟨some 11, .load true 9 (.t 1), none⟩,
  ⟨none, .store 9 (.t 2) (.t 11), none⟩])
 .ret)))

theorem impl_Transaction_copied_eq (E : Env) (a0 : U) : run E impl_Transaction_copied_ac [(2, some (true, 9))] [a0] =
 U.noTup a0 fun x1 => U.asAgg x1 fun us2 => if 7 = sizes (us2.take 7) then (us2[7]?).bind fun e3 => U.asVar false 1 e3 fun e4 => (E 224 [e4]).bind fun t5 => U.asAgg x1 fun us6 => if 8 = sizes (us6.take 8) then (us6[8]?).bind fun e7 => U.asVar false 1 e7 fun e8 => (E 225 [e8]).bind fun t9 => if storable (.val t5) = true ∧ t5.size = 1 then U.asAgg x1 fun us10 => if 7 = sizes (us10.take 7) then (us10[7]?).bind fun e11 => if e11.size = 1 then if storable (.val t9) = true ∧ t9.size = 1 then U.asAgg (.agg (us10.set 7 t5)) fun us12 => if 8 = sizes (us12.take 8) then (us12[8]?).bind fun e13 => if e13.size = 1 then U.asVar true 9 (.agg (us12.set 8 t9)) fun e14 => if storable (.val e14) = true ∧ e14.size = 9 then U.asVar true 9 e14 fun e15 => some e15 else none else none else none else none else none else none else none else none else none := by kernel_rfl

/-- In the environment E: this function and those that it calls. -/
structure G_impl_Transaction_copied (E : Env) : Prop where
  is : Is E 222 1 impl_Transaction_copied_ac [(2, some (true, 9))]
  c_slices_Clone_g224 : IsClone E 224 2 16
  c_slices_Clone_g225 : IsClone E 225 2 16
theorem impl_Transaction_copied_E {E : Env} (h : G_impl_Transaction_copied E) (a0 : U) : E 222 [a0] =
 U.noTup a0 fun x1 => U.asAgg x1 fun us2 => if 7 = sizes (us2.take 7) then (us2[7]?).bind fun e3 => U.asVar false 1 e3 fun e4 => (E 224 [e4]).bind fun t5 => U.asAgg x1 fun us6 => if 8 = sizes (us6.take 8) then (us6[8]?).bind fun e7 => U.asVar false 1 e7 fun e8 => (E 225 [e8]).bind fun t9 => if storable (.val t5) = true ∧ t5.size = 1 then U.asAgg x1 fun us10 => if 7 = sizes (us10.take 7) then (us10[7]?).bind fun e11 => if e11.size = 1 then if storable (.val t9) = true ∧ t9.size = 1 then U.asAgg (.agg (us10.set 7 t5)) fun us12 => if 8 = sizes (us12.take 8) then (us12[8]?).bind fun e13 => if e13.size = 1 then U.asVar true 9 (.agg (us12.set 8 t9)) fun e14 => if storable (.val e14) = true ∧ e14.size = 9 then U.asVar true 9 e14 fun e15 => some e15 else none else none else none else none else none else none else none else none else none := (h.is _ rfl).trans ((runQ_V rfl).trans (impl_Transaction_copied_eq E a0))

end Go.Proofs.Ytfdcdbkblkehcaa.Am
namespace Go.Proofs.Ytfdcdbkblkehcaa.Am
open Go
set_option linter.unusedVariables false
set_option maxRecDepth 100000

/- loop.example/g01924/impl.in -/
def impl_in_ac : AC :=
 (.seq (.region 0 [⟨some 6, .mv (.c (.bool false)), none⟩])
 (.seq (.region 0 [⟨some 7, .mv (.t 1), none⟩,
  ⟨some 8, .mv (.t 0), none⟩,
  ⟨some 9, .bin .leq (.t 7) (.t 8), none⟩,
  ⟨some 10, .mv (.t 9), none⟩,
  ⟨some 11, .mv (.t 0), some (10, true)⟩,
  ⟨some 12, .mv (.t 2), some (10, true)⟩,
  ⟨some 13, .bin .leq (.t 11) (.t 12), some (10, true)⟩,
  ⟨some 14, .pick (.t 10) (.t 13) (.c (.bool false)), none⟩,
  ⟨some 6, .mv (.t 14), none⟩])
 .ret))

theorem impl_in_eq (E : Env) (a0 : U) (a1 : U) (a2 : U) : run E impl_in_ac [(6, none)] [a0, a1, a2] =
 (U.bin .leq a1 a0).bind fun t1 => U.asBool t1
 ((U.bin .leq a0 a2).bind fun t2 => some t2)
 (some (.bool false)) := by kernel_rfl

/-- In the environment E: this function and those that it calls. -/
structure G_impl_in (E : Env) : Prop where
  is : Is E 10 3 impl_in_ac [(6, none)]
theorem impl_in_E {E : Env} (h : G_impl_in E) (a0 a1 a2 : U) : E 10 [a0, a1, a2] =
 (U.bin .leq a1 a0).bind fun t1 => U.asBool t1
 ((U.bin .leq a0 a2).bind fun t2 => some t2)
 (some (.bool false)) := (h.is _ rfl).trans ((runQ_V rfl).trans (impl_in_eq E a0 a1 a2))

end Go.Proofs.Ytfdcdbkblkehcaa.Am
namespace Go.Proofs.Ytfdcdbkblkehcaa.Am
open Go
set_option linter.unusedVariables false
set_option maxRecDepth 100000

/- loop.example/g01924/impl.isID -/
def impl_isID_ac : AC :=
 (.seq (.region 0 [⟨some 2, .mv (.c (.bool false)), none⟩])
 (.seq (.region 0 [⟨some 3, .mv (.t 0), none⟩,
  ⟨some 4, .call false 10 [(.t 3), (.c (.int .i64 1)), (.c (.int .i64 9))], none⟩,
  ⟨some 2, .mv (.t 4), none⟩])
 .ret))

theorem impl_isID_eq (E : Env) (a0 : U) : run E impl_isID_ac [(2, none)] [a0] =
 (E 10 [a0, (.int .i64 1), (.int .i64 9)]).bind fun t1 => some t1 := by kernel_rfl

/-- In the environment E: this function and those that it calls. -/
structure G_impl_isID (E : Env) : Prop where
  is : Is E 9 1 impl_isID_ac [(2, none)]
  c_impl_in : G_impl_in E
theorem impl_isID_E {E : Env} (h : G_impl_isID E) (a0 : U) : E 9 [a0] =
 (E 10 [a0, (.int .i64 1), (.int .i64 9)]).bind fun t1 => some t1 := (h.is _ rfl).trans ((runQ_V rfl).trans (impl_isID_eq E a0))

end Go.Proofs.Ytfdcdbkblkehcaa.Am
namespace Go.Proofs.Ytfdcdbkblkehcaa.Am
open Go
set_option linter.unusedVariables false
set_option maxRecDepth 100000

/- loop.example/g01924/impl.isScheme -/
def impl_isScheme_ac : AC :=
 (.seq (.region 0 [⟨some 2, .mv (.c (.bool false)), none⟩])
 (.seq (.region 0 [⟨some 3, .mv (.t 0), none⟩,
  ⟨some 4, .call false 10 [(.t 3), (.c (.int .i64 1)), (.c (.int .i64 4))], none⟩,
  ⟨some 2, .mv (.t 4), none⟩])
 .ret))

theorem impl_isScheme_eq (E : Env) (a0 : U) : run E impl_isScheme_ac [(2, none)] [a0] =
 (E 10 [a0, (.int .i64 1), (.int .i64 4)]).bind fun t1 => some t1 := by kernel_rfl

/-- In the environment E: this function and those that it calls. -/
structure G_impl_isScheme (E : Env) : Prop where
  is : Is E 160 1 impl_isScheme_ac [(2, none)]
  c_impl_in : G_impl_in E
theorem impl_isScheme_E {E : Env} (h : G_impl_isScheme E) (a0 : U) : E 160 [a0] =
 (E 10 [a0, (.int .i64 1), (.int .i64 4)]).bind fun t1 => some t1 := (h.is _ rfl).trans ((runQ_V rfl).trans (impl_isScheme_eq E a0))

end Go.Proofs.Ytfdcdbkblkehcaa.Am
namespace Go.Proofs.Ytfdcdbkblkehcaa.Am
open Go
set_option linter.unusedVariables false
set_option maxRecDepth 100000

/- loop.example/g01924/impl.IsStamp -/
def impl_IsStamp_ac : AC :=
 (.seq (.region 0 [⟨some 2, .mv (.c (.bool false)), none⟩])
 (.seq (.region 0 [⟨some 3, .mv (.t 0), none⟩,
  ⟨some 4, .call false 10 [(.t 3), (.c (.int .i64 1)), (.c (.int .i64 999))], none⟩,
  ⟨some 2, .mv (.t 4), none⟩])
 .ret))

theorem impl_IsStamp_eq (E : Env) (a0 : U) : run E impl_IsStamp_ac [(2, none)] [a0] =
 (E 10 [a0, (.int .i64 1), (.int .i64 999)]).bind fun t1 => some t1 := by kernel_rfl

/-- In the environment E: this function and those that it calls. -/
structure G_impl_IsStamp (E : Env) : Prop where
  is : Is E 72 1 impl_IsStamp_ac [(2, none)]
  c_impl_in : G_impl_in E
theorem impl_IsStamp_E {E : Env} (h : G_impl_IsStamp E) (a0 : U) : E 72 [a0] =
 (E 10 [a0, (.int .i64 1), (.int .i64 999)]).bind fun t1 => some t1 := (h.is _ rfl).trans ((runQ_V rfl).trans (impl_IsStamp_eq E a0))

end Go.Proofs.Ytfdcdbkblkehcaa.Am
namespace Go.Proofs.Ytfdcdbkblkehcaa.Am
open Go
set_option linter.unusedVariables false
set_option maxRecDepth 100000

/- loop.example/g01924/impl.isKey -/
def impl_isKey_ac : AC :=
 (.seq (.region 0 [⟨some 2, .mv (.c (.bool false)), none⟩])
 (.seq (.region 0 [⟨some 3, .mv (.t 0), none⟩,
  ⟨some 4, .call false 10 [(.t 3), (.c (.int .i64 0)), (.c (.int .i64 5))], none⟩,
  ⟨some 2, .mv (.t 4), none⟩])
 .ret))

theorem impl_isKey_eq (E : Env) (a0 : U) : run E impl_isKey_ac [(2, none)] [a0] =
 (E 10 [a0, (.int .i64 0), (.int .i64 5)]).bind fun t1 => some t1 := by kernel_rfl

/-- In the environment E: this function and those that it calls. -/
structure G_impl_isKey (E : Env) : Prop where
  is : Is E 11 1 impl_isKey_ac [(2, none)]
  c_impl_in : G_impl_in E
theorem impl_isKey_E {E : Env} (h : G_impl_isKey E) (a0 : U) : E 11 [a0] =
 (E 10 [a0, (.int .i64 0), (.int .i64 5)]).bind fun t1 => some t1 := (h.is _ rfl).trans ((runQ_V rfl).trans (impl_isKey_eq E a0))

end Go.Proofs.Ytfdcdbkblkehcaa.Am
namespace Go.Proofs.Ytfdcdbkblkehcaa.Am
open Go
set_option linter.unusedVariables false
set_option maxRecDepth 100000

/- cmp.Or[int] -/
def cmp_Or_g14_b0 : AC :=
 (.seq (.region 0 [⟨some 9, .bin .lss (.t 8) (.t 7), none⟩])
 (.seq (.cond (.t 9) .skip (.exit 0))
 (.seq (.block 1 (.seq (.region 0 [⟨some 10, .iaddr 1 (.t 6) (.t 8), none⟩,
  ⟨some 11, .load false 1 (.t 10), none⟩,
  ⟨some 5, .mv (.t 11), none⟩])
 (.seq (.region 0 [⟨some 12, .mv (.t 5), none⟩,
  ⟨some 13, .mv (.t 3), none⟩,
  ⟨some 14, .bin .neq (.t 12) (.t 13), none⟩])
 (.cond (.t 14) (.seq (.region 0 [⟨some 15, .mv (.t 5), none⟩,
  ⟨some 2, .mv (.t 15), none⟩])
 .ret) .skip))))
 (.region 0 [⟨some 16, .bin .add (.t 8) (.c (.int .i64 1)), none⟩,
  ⟨some 8, .mv (.t 16), none⟩]))))
def cmp_Or_g14_r0 : AC :=
 (.seq (.region 0 [⟨some 17, .mv (.t 3), none⟩,
  ⟨some 2, .mv (.t 17), none⟩])
 .ret)
def cmp_Or_g14_ac : AC :=
 (.seq (.region 0 [⟨some 2, .mv (.c (.int .i64 0)), none⟩])
 (.seq (.region 0 [⟨some 3, .mv (.c (.int .i64 0)), none⟩])
 (.seq (.seq (.region 0 [⟨some 6, .mv (.t 0), none⟩,
  ⟨some 7, .len false (.t 6), none⟩,
  ⟨some 8, .mv (.c (.int .i64 0)), none⟩])
 (.block 0 (.loop ⟨[3, 6, 7, 8], [], []⟩ cmp_Or_g14_b0)))
 cmp_Or_g14_r0)))
noncomputable def cmp_Or_g14_l0 (E : Env) (x3 : U) (x6 : U) (x7 : U) (x8 : U) : Option U := loopK (roundOf E ⟨[3, 6, 7, 8], [], []⟩ cmp_Or_g14_b0 (blockK 0 (seqK (fun s => exec E cmp_Or_g14_r0 s (finish [(2, none)])) (finish [(2, none)])))) ([.val x3, .val x6, .val x7, .val x8], [])
theorem cmp_Or_g14_eq (E : Env) (a0 : U) : run E cmp_Or_g14_ac [(2, none)] [a0] =
 (U.lenOf false a0).bind fun n1 => cmp_Or_g14_l0 E (.int .i64 0) a0 (.int .i64 (n1 : Int)) (.int .i64 0) := by kernel_rfl
theorem cmp_Or_g14_l0_eq (E : Env) (x3 : U) (x6 : U) (x7 : U) (x8 : U) : cmp_Or_g14_l0 E x3 x6 x7 x8 =
 (U.bin .lss x8 x7).bind fun t2 => U.asBool t2
 (U.asInt x8 fun n3 => U.elemAt 1 x6 n3 fun e4 => U.asVar false 1 e4 fun e5 => (U.bin .neq e5 x3).bind fun t6 => U.asBool t6
 (some e5)
 ((U.bin .add x8 (.int .i64 1)).bind fun t7 => cmp_Or_g14_l0 E x3 x6 x7 t7))
 (some x3) :=
 (loop_eq E _ _ _ _).trans (by kernel_rfl)

/-- In the environment E: this function and those that it calls. -/
structure G_cmp_Or_g14 (E : Env) : Prop where
  is : Is E 14 1 cmp_Or_g14_ac [(2, none)]
theorem cmp_Or_g14_E {E : Env} (h : G_cmp_Or_g14 E) (a0 : U) : E 14 [a0] =
 (U.lenOf false a0).bind fun n1 => cmp_Or_g14_l0 E (.int .i64 0) a0 (.int .i64 (n1 : Int)) (.int .i64 0) := (h.is _ rfl).trans ((runQ_V rfl).trans (cmp_Or_g14_eq E a0))

end Go.Proofs.Ytfdcdbkblkehcaa.Am
namespace Go.Proofs.Ytfdcdbkblkehcaa.Am
open Go
set_option linter.unusedVariables false
set_option maxRecDepth 100000

/- cmp.isNaN[int] -/
def cmp_isNaN_g15_ac : AC :=
 (.seq (.region 0 [⟨some 2, .mv (.c (.bool false)), none⟩])
 (.seq (.region 0 [⟨some 3, .mv (.t 0), none⟩,
  ⟨some 4, .mv (.t 0), none⟩,
  ⟨some 5, .bin .neq (.t 3) (.t 4), none⟩,
  ⟨some 2, .mv (.t 5), none⟩])
 .ret))

theorem cmp_isNaN_g15_eq (E : Env) (a0 : U) : run E cmp_isNaN_g15_ac [(2, none)] [a0] =
 (U.bin .neq a0 a0).bind fun t1 => some t1 := by kernel_rfl

/-- In the environment E: this function and those that it calls. -/
structure G_cmp_isNaN_g15 (E : Env) : Prop where
  is : Is E 15 1 cmp_isNaN_g15_ac [(2, none)]
theorem cmp_isNaN_g15_E {E : Env} (h : G_cmp_isNaN_g15 E) (a0 : U) : E 15 [a0] =
 (U.bin .neq a0 a0).bind fun t1 => some t1 := (h.is _ rfl).trans ((runQ_V rfl).trans (cmp_isNaN_g15_eq E a0))

end Go.Proofs.Ytfdcdbkblkehcaa.Am
namespace Go.Proofs.Ytfdcdbkblkehcaa.Am
open Go
set_option linter.unusedVariables false
set_option maxRecDepth 100000

/- cmp.Compare[int] -/
def cmp_Compare_g13_ac : AC :=
 (.seq (.region 0 [⟨some 4, .mv (.c (.int .i64 0)), none⟩])
 (.seq (.region 0 [⟨some 7, .mv (.t 0), none⟩,
  ⟨some 8, .call false 15 [(.t 7)], none⟩,
  ⟨some 5, .mv (.t 8), none⟩])
 (.seq (.region 0 [⟨some 9, .mv (.t 1), none⟩,
  ⟨some 10, .call false 15 [(.t 9)], none⟩,
  ⟨some 6, .mv (.t 10), none⟩])
 (.seq (.seq (.region 0 [⟨some 11, .mv (.t 5), none⟩])
 (.cond (.t 11) (.seq (.seq (.region 0 [⟨some 12, .mv (.t 6), none⟩])
 (.cond (.t 12) (.seq (.region 0 [⟨some 4, .mv (.c (.int .i64 0)), none⟩])
 .ret) .skip))
 (.seq (.region 0 [⟨some 4, .mv (.c (.int .i64 (-1))), none⟩])
 .ret)) .skip))
 (.seq (.seq (.region 0 [⟨some 13, .mv (.t 6), none⟩])
 (.cond (.t 13) (.seq (.region 0 [⟨some 4, .mv (.c (.int .i64 1)), none⟩])
 .ret) .skip))
 (.seq (.seq (.region 0 [⟨some 14, .mv (.t 0), none⟩,
  ⟨some 15, .mv (.t 1), none⟩,
  ⟨some 16, .bin .lss (.t 14) (.t 15), none⟩])
 (.cond (.t 16) (.seq (.region 0 [⟨some 4, .mv (.c (.int .i64 (-1))), none⟩])
 .ret) .skip))
 (.seq (.seq (.region 0 [⟨some 17, .mv (.t 0), none⟩,
  ⟨some 18, .mv (.t 1), none⟩,
  ⟨some 19, .bin .gtr (.t 17) (.t 18), none⟩])
 (.cond (.t 19) (.seq (.region 0 [⟨some 4, .mv (.c (.int .i64 1)), none⟩])
 .ret) .skip))
 (.seq (.region 0 [⟨some 4, .mv (.c (.int .i64 0)), none⟩])
 .ret))))))))

theorem cmp_Compare_g13_eq (E : Env) (a0 : U) (a1 : U) : run E cmp_Compare_g13_ac [(4, none)] [a0, a1] =
 (E 15 [a0]).bind fun t1 => (E 15 [a1]).bind fun t2 => U.asBool t1
 (U.asBool t2
 (some (.int .i64 0))
 (some (.int .i64 (-1))))
 (U.asBool t2
 (some (.int .i64 1))
 ((U.bin .lss a0 a1).bind fun t3 => U.asBool t3
 (some (.int .i64 (-1)))
 ((U.bin .gtr a0 a1).bind fun t4 => U.asBool t4
 (some (.int .i64 1))
 (some (.int .i64 0))))) := by kernel_rfl

/-- In the environment E: this function and those that it calls. -/
structure G_cmp_Compare_g13 (E : Env) : Prop where
  is : Is E 13 2 cmp_Compare_g13_ac [(4, none)]
  c_cmp_isNaN_g15 : G_cmp_isNaN_g15 E
theorem cmp_Compare_g13_E {E : Env} (h : G_cmp_Compare_g13 E) (a0 a1 : U) : E 13 [a0, a1] =
 (E 15 [a0]).bind fun t1 => (E 15 [a1]).bind fun t2 => U.asBool t1
 (U.asBool t2
 (some (.int .i64 0))
 (some (.int .i64 (-1))))
 (U.asBool t2
 (some (.int .i64 1))
 ((U.bin .lss a0 a1).bind fun t3 => U.asBool t3
 (some (.int .i64 (-1)))
 ((U.bin .gtr a0 a1).bind fun t4 => U.asBool t4
 (some (.int .i64 1))
 (some (.int .i64 0))))) := (h.is _ rfl).trans ((runQ_V rfl).trans (cmp_Compare_g13_eq E a0 a1))

end Go.Proofs.Ytfdcdbkblkehcaa.Am
namespace Go.Proofs.Ytfdcdbkblkehcaa.Am
open Go
set_option linter.unusedVariables false
set_option maxRecDepth 100000

/- loop.example/g01924/impl.compareMarks -/
def impl_compareMarks_ac : AC :=
 (.seq (.region 0 [⟨some 2, .box false 2 (.t 0), none⟩,
  ⟨some 3, .box false 3 (.t 1), none⟩,
  ⟨some 4, .mv (.c (.int .i64 0)), none⟩])
 (.seq (.region 13 [⟨some 5, .faddr 0 0 (.t 2), none⟩,
  ⟨some 6, .load false 1 (.t 5), none⟩,
  ⟨some 7, .faddr 0 0 (.t 3), none⟩,
  ⟨some 8, .load false 1 (.t 7), none⟩,
  ⟨some 9, .call false 13 [(.t 6), (.t 8)], none⟩,
  ⟨some 10, .faddr 1 1 (.t 2), none⟩,
  ⟨some 11, .load false 1 (.t 10), none⟩,
  ⟨some 12, .faddr 1 1 (.t 3), none⟩,
  ⟨some 13, .load false 1 (.t 12), none⟩,
  ⟨some 14, .call false 13 [(.t 11), (.t 13)], none⟩,
  ⟨some 15, .bslice 0 15 1 2 (.int .i64 0) [(0, (.t 9)), (1, (.t 14))], none⟩,
  ⟨some 16, .call false 14 [(.t 15)], none⟩,
  ⟨some 4, .mv (.t 16), none⟩])
 .ret))

theorem impl_compareMarks_eq (E : Env) (a0 : U) (a1 : U) : run E impl_compareMarks_ac [(4, none)] [a0, a1] =
 U.noTup a0 fun x1 => U.noTup a1 fun x2 => U.asAgg x1 fun us3 => if 0 = sizes (us3.take 0) then (us3[0]?).bind fun e4 => U.asVar false 1 e4 fun e5 => U.asAgg x2 fun us6 => if 0 = sizes (us6.take 0) then (us6[0]?).bind fun e7 => U.asVar false 1 e7 fun e8 => (E 13 [e5, e8]).bind fun t9 => U.asAgg x1 fun us10 => if 1 = sizes (us10.take 1) then (us10[1]?).bind fun e11 => U.asVar false 1 e11 fun e12 => U.asAgg x2 fun us13 => if 1 = sizes (us13.take 1) then (us13[1]?).bind fun e14 => U.asVar false 1 e14 fun e15 => (E 13 [e12, e15]).bind fun t16 => if partable (.val t9) = true ∧ t9.size = 1 then if partable (.val t16) = true ∧ t16.size = 1 then (E 14 [(.sl 1 [t9, t16])]).bind fun t17 => some t17 else none else none else none else none else none else none := by kernel_rfl

/-- In the environment E: this function and those that it calls. -/
structure G_impl_compareMarks (E : Env) : Prop where
  is : Is E 75 2 impl_compareMarks_ac [(4, none)]
  c_cmp_Or_g14 : G_cmp_Or_g14 E
  c_cmp_Compare_g13 : G_cmp_Compare_g13 E
theorem impl_compareMarks_E {E : Env} (h : G_impl_compareMarks E) (a0 a1 : U) : E 75 [a0, a1] =
 U.noTup a0 fun x1 => U.noTup a1 fun x2 => U.asAgg x1 fun us3 => if 0 = sizes (us3.take 0) then (us3[0]?).bind fun e4 => U.asVar false 1 e4 fun e5 => U.asAgg x2 fun us6 => if 0 = sizes (us6.take 0) then (us6[0]?).bind fun e7 => U.asVar false 1 e7 fun e8 => (E 13 [e5, e8]).bind fun t9 => U.asAgg x1 fun us10 => if 1 = sizes (us10.take 1) then (us10[1]?).bind fun e11 => U.asVar false 1 e11 fun e12 => U.asAgg x2 fun us13 => if 1 = sizes (us13.take 1) then (us13[1]?).bind fun e14 => U.asVar false 1 e14 fun e15 => (E 13 [e12, e15]).bind fun t16 => if partable (.val t9) = true ∧ t9.size = 1 then if partable (.val t16) = true ∧ t16.size = 1 then (E 14 [(.sl 1 [t9, t16])]).bind fun t17 => some t17 else none else none else none else none else none else none := (h.is _ rfl).trans ((runQ_V rfl).trans (impl_compareMarks_eq E a0 a1))

end Go.Proofs.Ytfdcdbkblkehcaa.Am
namespace Go.Proofs.Ytfdcdbkblkehcaa.Am
open Go
set_option linter.unusedVariables false
set_option maxRecDepth 100000

/- loop.example/g01924/impl.areReads -/
def impl_areReads_b0 : AC :=
 (.seq (.region 0 [⟨some 8, .bin .lss (.t 7) (.t 6), none⟩])
 (.seq (.cond (.t 8) .skip (.exit 0))
 (.seq (.block 1 (.seq (.region 0 [⟨some 9, .mv (.t 7), none⟩,
  ⟨some 10, .iaddr 2 (.t 5) (.t 7), none⟩,
  ⟨some 11, .load true 2 (.t 10), none⟩,
  ⟨some 4, .alloc 4 (.agg [(.int .i64 0), (.int .i64 0)]), none⟩,
  ⟨some 3, .mv (.t 9), none⟩,
  ⟨none, .store 2 (.t 4) (.t 11), none⟩])
 (.seq (.region 24 [⟨some 12, .faddr 0 0 (.t 4), none⟩,
  ⟨some 13, .load false 1 (.t 12), none⟩,
  ⟨some 14, .call false 11 [(.t 13)], none⟩,
  ⟨some 15, .un .not (.t 14), none⟩,
  ⟨some 16, .mv (.t 15), none⟩,
  ⟨some 17, .faddr 1 1 (.t 4), some (16, false)⟩,
  ⟨some 18, .load false 1 (.t 17), some (16, false)⟩,
  ⟨some 19, .call false 10 [(.t 18), (.c (.int .i64 0)), (.c (.int .i64 999))], some (16, false)⟩,
  ⟨some 20, .un .not (.t 19), some (16, false)⟩,
  ⟨some 21, .pick (.t 16) (.c (.bool true)) (.t 20), none⟩,
  ⟨some 22, .mv (.t 21), none⟩,
  ⟨some 23, .mv (.t 3), some (22, false)⟩,
  ⟨some 24, .bin .gtr (.t 23) (.c (.int .i64 0)), some (22, false)⟩,
  ⟨some 25, .mv (.t 24), some (22, false)⟩,
  ⟨some 26, .mv (.t 0), some (25, true)⟩,
  ⟨some 27, .mv (.t 3), some (25, true)⟩,
  ⟨some 28, .bin .sub (.t 27) (.c (.int .i64 1)), some (25, true)⟩,
  ⟨some 29, .iaddr 2 (.t 26) (.t 28), some (25, true)⟩,
  ⟨some 30, .load true 2 (.t 29), some (25, true)⟩,
  ⟨some 31, .load true 2 (.t 4), some (25, true)⟩,
  ⟨some 32, .call false 75 [(.t 30), (.t 31)], some (25, true)⟩,
  ⟨some 33, .bin .geq (.t 32) (.c (.int .i64 0)), some (25, true)⟩,
  ⟨some 34, .pick (.t 25) (.t 33) (.c (.bool false)), some (22, false)⟩,
  ⟨some 35, .pick (.t 22) (.c (.bool true)) (.t 34), none⟩])
 (.cond (.t 35) (.seq (.region 0 [⟨some 2, .mv (.c (.bool false)), none⟩])
 .ret) .skip))))
 (.region 0 [⟨some 36, .bin .add (.t 7) (.c (.int .i64 1)), none⟩,
  ⟨some 7, .mv (.t 36), none⟩]))))
def impl_areReads_r0 : AC :=
 (.seq (.region 0 [⟨some 37, .mv (.t 0), none⟩,
  ⟨some 38, .len false (.t 37), none⟩,
  ⟨some 39, .bin .leq (.t 38) (.c (.int .i64 60)), none⟩,
  ⟨some 2, .mv (.t 39), none⟩])
 .ret)
def impl_areReads_ac : AC :=
 (.seq (.region 0 [⟨some 2, .mv (.c (.bool false)), none⟩])
 (.seq (.seq (.region 0 [⟨some 5, .mv (.t 0), none⟩,
  ⟨some 6, .len false (.t 5), none⟩,
  ⟨some 7, .mv (.c (.int .i64 0)), none⟩])
 (.block 0 (.loop ⟨[0, 5, 6, 7], [], []⟩ impl_areReads_b0)))
 impl_areReads_r0))
noncomputable def impl_areReads_l0 (E : Env) (x0 : U) (x5 : U) (x6 : U) (x7 : U) : Option U := loopK (roundOf E ⟨[0, 5, 6, 7], [], []⟩ impl_areReads_b0 (blockK 0 (seqK (fun s => exec E impl_areReads_r0 s (finish [(2, none)])) (finish [(2, none)])))) ([.val x0, .val x5, .val x6, .val x7], [])
theorem impl_areReads_eq (E : Env) (a0 : U) : run E impl_areReads_ac [(2, none)] [a0] =
 (U.lenOf false a0).bind fun n1 => impl_areReads_l0 E a0 a0 (.int .i64 (n1 : Int)) (.int .i64 0) := by kernel_rfl
theorem impl_areReads_l0_eq (E : Env) (x0 : U) (x5 : U) (x6 : U) (x7 : U) : impl_areReads_l0 E x0 x5 x6 x7 =
 (U.bin .lss x7 x6).bind fun t2 => U.asBool t2
 (U.asInt x7 fun n3 => U.elemAt 2 x5 n3 fun e4 => U.asVar true 2 e4 fun e5 => if storable (.val e5) = true ∧ e5.size = 2 then U.asAgg e5 fun us6 => if 0 = sizes (us6.take 0) then (us6[0]?).bind fun e7 => U.asVar false 1 e7 fun e8 => (E 11 [e8]).bind fun t9 => (U.un .not t9).bind fun t10 => U.asBool t10
 (some (.bool false))
 (U.asAgg e5 fun us11 => if 1 = sizes (us11.take 1) then (us11[1]?).bind fun e12 => U.asVar false 1 e12 fun e13 => (E 10 [e13, (.int .i64 0), (.int .i64 999)]).bind fun t14 => (U.un .not t14).bind fun t15 => U.asBool t15
 (some (.bool false))
 ((U.bin .gtr x7 (.int .i64 0)).bind fun t16 => U.asBool t16
 ((U.bin .sub x7 (.int .i64 1)).bind fun t17 => U.asInt t17 fun n18 => U.elemAt 2 x0 n18 fun e19 => U.asVar true 2 e19 fun e20 => U.asVar true 2 e5 fun e21 => (E 75 [e20, e21]).bind fun t22 => (U.bin .geq t22 (.int .i64 0)).bind fun t23 => U.asBool t23
 (some (.bool false))
 ((U.bin .add x7 (.int .i64 1)).bind fun t24 => impl_areReads_l0 E x0 x5 x6 t24))
 ((U.bin .add x7 (.int .i64 1)).bind fun t25 => impl_areReads_l0 E x0 x5 x6 t25)) else none) else none else none)
 ((U.lenOf false x0).bind fun n26 => (U.bin .leq (.int .i64 (n26 : Int)) (.int .i64 60)).bind fun t27 => some t27) :=
 (loop_eq E _ _ _ _).trans (by kernel_rfl)

/-- In the environment E: this function and those that it calls. -/
structure G_impl_areReads (E : Env) : Prop where
  is : Is E 73 1 impl_areReads_ac [(2, none)]
  c_impl_isKey : G_impl_isKey E
  c_impl_in : G_impl_in E
  c_impl_compareMarks : G_impl_compareMarks E
theorem impl_areReads_E {E : Env} (h : G_impl_areReads E) (a0 : U) : E 73 [a0] =
 (U.lenOf false a0).bind fun n1 => impl_areReads_l0 E a0 a0 (.int .i64 (n1 : Int)) (.int .i64 0) := (h.is _ rfl).trans ((runQ_V rfl).trans (impl_areReads_eq E a0))

end Go.Proofs.Ytfdcdbkblkehcaa.Am
namespace Go.Proofs.Ytfdcdbkblkehcaa.Am
open Go
set_option linter.unusedVariables false
set_option maxRecDepth 100000

/- loop.example/g01924/impl.isValue -/
def impl_isValue_ac : AC :=
 (.seq (.region 0 [⟨some 2, .mv (.c (.bool false)), none⟩])
 (.seq (.region 0 [⟨some 3, .mv (.t 0), none⟩,
  ⟨some 4, .call false 10 [(.t 3), (.c (.int .i64 (-1))), (.c (.int .i64 99))], none⟩,
  ⟨some 2, .mv (.t 4), none⟩])
 .ret))

theorem impl_isValue_eq (E : Env) (a0 : U) : run E impl_isValue_ac [(2, none)] [a0] =
 (E 10 [a0, (.int .i64 (-1)), (.int .i64 99)]).bind fun t1 => some t1 := by kernel_rfl

/-- In the environment E: this function and those that it calls. -/
structure G_impl_isValue (E : Env) : Prop where
  is : Is E 76 1 impl_isValue_ac [(2, none)]
  c_impl_in : G_impl_in E
theorem impl_isValue_E {E : Env} (h : G_impl_isValue E) (a0 : U) : E 76 [a0] =
 (E 10 [a0, (.int .i64 (-1)), (.int .i64 99)]).bind fun t1 => some t1 := (h.is _ rfl).trans ((runQ_V rfl).trans (impl_isValue_eq E a0))

end Go.Proofs.Ytfdcdbkblkehcaa.Am
namespace Go.Proofs.Ytfdcdbkblkehcaa.Am
open Go
set_option linter.unusedVariables false
set_option maxRecDepth 100000

/- loop.example/g01924/impl.areWrites -/
def impl_areWrites_b0 : AC :=
 (.seq (.region 0 [⟨some 8, .bin .lss (.t 7) (.t 6), none⟩])
 (.seq (.cond (.t 8) .skip (.exit 0))
 (.seq (.block 1 (.seq (.region 0 [⟨some 9, .mv (.t 7), none⟩,
  ⟨some 10, .iaddr 2 (.t 5) (.t 7), none⟩,
  ⟨some 11, .load true 2 (.t 10), none⟩,
  ⟨some 4, .alloc 4 (.agg [(.int .i64 0), (.int .i64 0)]), none⟩,
  ⟨some 3, .mv (.t 9), none⟩,
  ⟨none, .store 2 (.t 4) (.t 11), none⟩])
 (.seq (.region 25 [⟨some 12, .faddr 0 0 (.t 4), none⟩,
  ⟨some 13, .load false 1 (.t 12), none⟩,
  ⟨some 14, .call false 11 [(.t 13)], none⟩,
  ⟨some 15, .un .not (.t 14), none⟩,
  ⟨some 16, .mv (.t 15), none⟩,
  ⟨some 17, .faddr 1 1 (.t 4), some (16, false)⟩,
  ⟨some 18, .load false 1 (.t 17), some (16, false)⟩,
  ⟨some 19, .call false 76 [(.t 18)], some (16, false)⟩,
  ⟨some 20, .un .not (.t 19), some (16, false)⟩,
  ⟨some 21, .pick (.t 16) (.c (.bool true)) (.t 20), none⟩,
  ⟨some 22, .mv (.t 21), none⟩,
  ⟨some 23, .mv (.t 3), some (22, false)⟩,
  ⟨some 24, .bin .gtr (.t 23) (.c (.int .i64 0)), some (22, false)⟩,
  ⟨some 25, .mv (.t 24), some (22, false)⟩,
  ⟨some 26, .mv (.t 0), some (25, true)⟩,
  ⟨some 27, .mv (.t 3), some (25, true)⟩,
  ⟨some 28, .bin .sub (.t 27) (.c (.int .i64 1)), some (25, true)⟩,
  ⟨some 29, .iaddr 2 (.t 26) (.t 28), some (25, true)⟩,
  ⟨some 30, .faddr 0 0 (.t 29), some (25, true)⟩,
  ⟨some 31, .load false 1 (.t 30), some (25, true)⟩,
  ⟨some 32, .faddr 0 0 (.t 4), some (25, true)⟩,
  ⟨some 33, .load false 1 (.t 32), some (25, true)⟩,
  ⟨some 34, .bin .geq (.t 31) (.t 33), some (25, true)⟩,
  ⟨some 35, .pick (.t 25) (.t 34) (.c (.bool false)), some (22, false)⟩,
  ⟨some 36, .pick (.t 22) (.c (.bool true)) (.t 35), none⟩])
 (.cond (.t 36) (.seq (.region 0 [⟨some 2, .mv (.c (.bool false)), none⟩])
 .ret) .skip))))
 (.region 0 [⟨some 37, .bin .add (.t 7) (.c (.int .i64 1)), none⟩,
  ⟨some 7, .mv (.t 37), none⟩]))))
def impl_areWrites_r0 : AC :=
 (.seq (.region 0 [⟨some 2, .mv (.c (.bool true)), none⟩])
 .ret)
def impl_areWrites_ac : AC :=
 (.seq (.region 0 [⟨some 2, .mv (.c (.bool false)), none⟩])
 (.seq (.seq (.region 0 [⟨some 5, .mv (.t 0), none⟩,
  ⟨some 6, .len false (.t 5), none⟩,
  ⟨some 7, .mv (.c (.int .i64 0)), none⟩])
 (.block 0 (.loop ⟨[0, 5, 6, 7], [], []⟩ impl_areWrites_b0)))
 impl_areWrites_r0))
noncomputable def impl_areWrites_l0 (E : Env) (x0 : U) (x5 : U) (x6 : U) (x7 : U) : Option U := loopK (roundOf E ⟨[0, 5, 6, 7], [], []⟩ impl_areWrites_b0 (blockK 0 (seqK (fun s => exec E impl_areWrites_r0 s (finish [(2, none)])) (finish [(2, none)])))) ([.val x0, .val x5, .val x6, .val x7], [])
theorem impl_areWrites_eq (E : Env) (a0 : U) : run E impl_areWrites_ac [(2, none)] [a0] =
 (U.lenOf false a0).bind fun n1 => impl_areWrites_l0 E a0 a0 (.int .i64 (n1 : Int)) (.int .i64 0) := by kernel_rfl
theorem impl_areWrites_l0_eq (E : Env) (x0 : U) (x5 : U) (x6 : U) (x7 : U) : impl_areWrites_l0 E x0 x5 x6 x7 =
 (U.bin .lss x7 x6).bind fun t2 => U.asBool t2
 (U.asInt x7 fun n3 => U.elemAt 2 x5 n3 fun e4 => U.asVar true 2 e4 fun e5 => if storable (.val e5) = true ∧ e5.size = 2 then U.asAgg e5 fun us6 => if 0 = sizes (us6.take 0) then (us6[0]?).bind fun e7 => U.asVar false 1 e7 fun e8 => (E 11 [e8]).bind fun t9 => (U.un .not t9).bind fun t10 => U.asBool t10
 (some (.bool false))
 (U.asAgg e5 fun us11 => if 1 = sizes (us11.take 1) then (us11[1]?).bind fun e12 => U.asVar false 1 e12 fun e13 => (E 76 [e13]).bind fun t14 => (U.un .not t14).bind fun t15 => U.asBool t15
 (some (.bool false))
 ((U.bin .gtr x7 (.int .i64 0)).bind fun t16 => U.asBool t16
 ((U.bin .sub x7 (.int .i64 1)).bind fun t17 => U.asInt t17 fun n18 => U.elemAt 2 x0 n18 fun e19 => U.fieldAt 0 0 e19 fun f20 => U.asVar false 1 f20 fun e21 => U.asAgg e5 fun us22 => if 0 = sizes (us22.take 0) then (us22[0]?).bind fun e23 => U.asVar false 1 e23 fun e24 => (U.bin .geq e21 e24).bind fun t25 => U.asBool t25
 (some (.bool false))
 ((U.bin .add x7 (.int .i64 1)).bind fun t26 => impl_areWrites_l0 E x0 x5 x6 t26) else none)
 ((U.bin .add x7 (.int .i64 1)).bind fun t27 => impl_areWrites_l0 E x0 x5 x6 t27)) else none) else none else none)
 (some (.bool true)) :=
 (loop_eq E _ _ _ _).trans (by kernel_rfl)

/-- In the environment E: this function and those that it calls. -/
structure G_impl_areWrites (E : Env) : Prop where
  is : Is E 74 1 impl_areWrites_ac [(2, none)]
  c_impl_isKey : G_impl_isKey E
  c_impl_isValue : G_impl_isValue E
theorem impl_areWrites_E {E : Env} (h : G_impl_areWrites E) (a0 : U) : E 74 [a0] =
 (U.lenOf false a0).bind fun n1 => impl_areWrites_l0 E a0 a0 (.int .i64 (n1 : Int)) (.int .i64 0) := (h.is _ rfl).trans ((runQ_V rfl).trans (impl_areWrites_eq E a0))

end Go.Proofs.Ytfdcdbkblkehcaa.Am
namespace Go.Proofs.Ytfdcdbkblkehcaa.Am
open Go
set_option linter.unusedVariables false
set_option maxRecDepth 100000

/- loop.example/g01924/impl.IsValidTransaction -/
def impl_IsValidTransaction_ac : AC :=
 (.seq (.region 0 [⟨some 1, .box false 1 (.t 0), none⟩,
  ⟨some 2, .mv (.c (.bool false)), none⟩])
 (.seq (.seq (.region 0 [⟨some 3, .faddr 0 0 (.t 1), none⟩,
  ⟨some 4, .load false 1 (.t 3), none⟩,
  ⟨some 5, .call false 9 [(.t 4)], none⟩,
  ⟨some 6, .un .not (.t 5), none⟩,
  ⟨some 7, .mv (.t 6), none⟩,
  ⟨some 8, .faddr 1 1 (.t 1), some (7, false)⟩,
  ⟨some 9, .load false 1 (.t 8), some (7, false)⟩,
  ⟨some 10, .call false 160 [(.t 9)], some (7, false)⟩,
  ⟨some 11, .un .not (.t 10), some (7, false)⟩,
  ⟨some 12, .pick (.t 7) (.c (.bool true)) (.t 11), none⟩,
  ⟨some 13, .mv (.t 12), none⟩,
  ⟨some 14, .faddr 2 2 (.t 1), some (13, false)⟩,
  ⟨some 15, .load false 1 (.t 14), some (13, false)⟩,
  ⟨some 16, .call false 10 [(.t 15), (.c (.int .i64 1)), (.c (.int .i64 3))], some (13, false)⟩,
  ⟨some 17, .un .not (.t 16), some (13, false)⟩,
  ⟨some 18, .pick (.t 13) (.c (.bool true)) (.t 17), none⟩,
  ⟨some 19, .mv (.t 18), none⟩,
  ⟨some 20, .faddr 3 3 (.t 1), some (19, false)⟩,
  ⟨some 21, .load false 1 (.t 20), some (19, false)⟩,
  ⟨some 22, .call false 10 [(.t 21), (.c (.int .i64 0)), (.c (.int .i64 999))], some (19, false)⟩,
  ⟨some 23, .un .not (.t 22), some (19, false)⟩,
  ⟨some 24, .pick (.t 19) (.c (.bool true)) (.t 23), none⟩,
  ⟨some 25, .mv (.t 24), none⟩,
  ⟨some 26, .faddr 4 4 (.t 1), some (25, false)⟩,
  ⟨some 27, .load false 1 (.t 26), some (25, false)⟩,
  ⟨some 28, .call false 10 [(.t 27), (.c (.int .i64 0)), (.c (.int .i64 999))], some (25, false)⟩,
  ⟨some 29, .un .not (.t 28), some (25, false)⟩,
  ⟨some 30, .pick (.t 25) (.c (.bool true)) (.t 29), none⟩,
  ⟨some 31, .mv (.t 30), none⟩,
  ⟨some 32, .faddr 5 5 (.t 1), some (31, false)⟩,
  ⟨some 33, .load false 1 (.t 32), some (31, false)⟩,
  ⟨some 34, .call false 10 [(.t 33), (.c (.int .i64 1)), (.c (.int .i64 1000))], some (31, false)⟩,
  ⟨some 35, .un .not (.t 34), some (31, false)⟩,
  ⟨some 36, .pick (.t 31) (.c (.bool true)) (.t 35), none⟩])
 (.cond (.t 36) (.seq (.region 0 [⟨some 2, .mv (.c (.bool false)), none⟩])
 .ret) .skip))
 (.seq (.seq (.region 0 [⟨some 37, .faddr 2 2 (.t 1), none⟩,
  ⟨some 38, .load false 1 (.t 37), none⟩,
  ⟨some 39, .bin .eql (.t 38) (.c (.int .i64 2)), none⟩,
  ⟨some 40, .mv (.t 39), none⟩,
  ⟨some 41, .faddr 6 6 (.t 1), some (40, true)⟩,
  ⟨some 42, .load false 1 (.t 41), some (40, true)⟩,
  ⟨some 43, .call false 72 [(.t 42)], some (40, true)⟩,
  ⟨some 44, .un .not (.t 43), some (40, true)⟩,
  ⟨some 45, .pick (.t 40) (.t 44) (.c (.bool false)), none⟩,
  ⟨some 46, .mv (.t 45), none⟩,
  ⟨some 47, .faddr 2 2 (.t 1), some (46, false)⟩,
  ⟨some 48, .load false 1 (.t 47), some (46, false)⟩,
  ⟨some 49, .bin .neq (.t 48) (.c (.int .i64 2)), some (46, false)⟩,
  ⟨some 50, .mv (.t 49), some (46, false)⟩,
  ⟨some 51, .faddr 6 6 (.t 1), some (50, true)⟩,
  ⟨some 52, .load false 1 (.t 51), some (50, true)⟩,
  ⟨some 53, .bin .neq (.t 52) (.c (.int .i64 0)), some (50, true)⟩,
  ⟨some 54, .pick (.t 50) (.t 53) (.c (.bool false)), some (46, false)⟩,
  ⟨some 55, .pick (.t 46) (.c (.bool true)) (.t 54), none⟩])
 (.cond (.t 55) (.seq (.region 0 [⟨some 2, .mv (.c (.bool false)), none⟩])
 .ret) .skip))
 (.seq (.region 0 [⟨some 56, .faddr 7 7 (.t 1), none⟩,
  ⟨some 57, .load false 1 (.t 56), none⟩,
  ⟨some 58, .call false 73 [(.t 57)], none⟩,
  ⟨some 59, .mv (.t 58), none⟩,
  ⟨some 60, .faddr 8 8 (.t 1), some (59, true)⟩,
  ⟨some 61, .load false 1 (.t 60), some (59, true)⟩,
  ⟨some 62, .call false 74 [(.t 61)], some (59, true)⟩,
  ⟨some 63, .pick (.t 59) (.t 62) (.c (.bool false)), none⟩,
  ⟨some 2, .mv (.t 63), none⟩])
 .ret))))

theorem impl_IsValidTransaction_eq (E : Env) (a0 : U) : run E impl_IsValidTransaction_ac [(2, none)] [a0] =
 U.noTup a0 fun x1 => U.asAgg x1 fun us2 => if 0 = sizes (us2.take 0) then (us2[0]?).bind fun e3 => U.asVar false 1 e3 fun e4 => (E 9 [e4]).bind fun t5 => (U.un .not t5).bind fun t6 => U.asBool t6
 (some (.bool false))
 (U.asAgg x1 fun us7 => if 1 = sizes (us7.take 1) then (us7[1]?).bind fun e8 => U.asVar false 1 e8 fun e9 => (E 160 [e9]).bind fun t10 => (U.un .not t10).bind fun t11 => U.asBool t11
 (some (.bool false))
 (U.asAgg x1 fun us12 => if 2 = sizes (us12.take 2) then (us12[2]?).bind fun e13 => U.asVar false 1 e13 fun e14 => (E 10 [e14, (.int .i64 1), (.int .i64 3)]).bind fun t15 => (U.un .not t15).bind fun t16 => U.asBool t16
 (some (.bool false))
 (U.asAgg x1 fun us17 => if 3 = sizes (us17.take 3) then (us17[3]?).bind fun e18 => U.asVar false 1 e18 fun e19 => (E 10 [e19, (.int .i64 0), (.int .i64 999)]).bind fun t20 => (U.un .not t20).bind fun t21 => U.asBool t21
 (some (.bool false))
 (U.asAgg x1 fun us22 => if 4 = sizes (us22.take 4) then (us22[4]?).bind fun e23 => U.asVar false 1 e23 fun e24 => (E 10 [e24, (.int .i64 0), (.int .i64 999)]).bind fun t25 => (U.un .not t25).bind fun t26 => U.asBool t26
 (some (.bool false))
 (U.asAgg x1 fun us27 => if 5 = sizes (us27.take 5) then (us27[5]?).bind fun e28 => U.asVar false 1 e28 fun e29 => (E 10 [e29, (.int .i64 1), (.int .i64 1000)]).bind fun t30 => (U.un .not t30).bind fun t31 => U.asBool t31
 (some (.bool false))
 (U.asAgg x1 fun us32 => if 2 = sizes (us32.take 2) then (us32[2]?).bind fun e33 => U.asVar false 1 e33 fun e34 => (U.bin .eql e34 (.int .i64 2)).bind fun t35 => U.asBool t35
 (U.asAgg x1 fun us36 => if 6 = sizes (us36.take 6) then (us36[6]?).bind fun e37 => U.asVar false 1 e37 fun e38 => (E 72 [e38]).bind fun t39 => (U.un .not t39).bind fun t40 => U.asBool t40
 (some (.bool false))
 (U.asAgg x1 fun us41 => if 2 = sizes (us41.take 2) then (us41[2]?).bind fun e42 => U.asVar false 1 e42 fun e43 => (U.bin .neq e43 (.int .i64 2)).bind fun t44 => U.asBool t44
 (U.asAgg x1 fun us45 => if 6 = sizes (us45.take 6) then (us45[6]?).bind fun e46 => U.asVar false 1 e46 fun e47 => (U.bin .neq e47 (.int .i64 0)).bind fun t48 => U.asBool t48
 (some (.bool false))
 (U.asAgg x1 fun us49 => if 7 = sizes (us49.take 7) then (us49[7]?).bind fun e50 => U.asVar false 1 e50 fun e51 => (E 73 [e51]).bind fun t52 => U.asBool t52
 (U.asAgg x1 fun us53 => if 8 = sizes (us53.take 8) then (us53[8]?).bind fun e54 => U.asVar false 1 e54 fun e55 => (E 74 [e55]).bind fun t56 => some t56 else none)
 (some (.bool false)) else none) else none)
 (U.asAgg x1 fun us57 => if 7 = sizes (us57.take 7) then (us57[7]?).bind fun e58 => U.asVar false 1 e58 fun e59 => (E 73 [e59]).bind fun t60 => U.asBool t60
 (U.asAgg x1 fun us61 => if 8 = sizes (us61.take 8) then (us61[8]?).bind fun e62 => U.asVar false 1 e62 fun e63 => (E 74 [e63]).bind fun t64 => some t64 else none)
 (some (.bool false)) else none) else none) else none)
 (U.asAgg x1 fun us65 => if 2 = sizes (us65.take 2) then (us65[2]?).bind fun e66 => U.asVar false 1 e66 fun e67 => (U.bin .neq e67 (.int .i64 2)).bind fun t68 => U.asBool t68
 (U.asAgg x1 fun us69 => if 6 = sizes (us69.take 6) then (us69[6]?).bind fun e70 => U.asVar false 1 e70 fun e71 => (U.bin .neq e71 (.int .i64 0)).bind fun t72 => U.asBool t72
 (some (.bool false))
 (U.asAgg x1 fun us73 => if 7 = sizes (us73.take 7) then (us73[7]?).bind fun e74 => U.asVar false 1 e74 fun e75 => (E 73 [e75]).bind fun t76 => U.asBool t76
 (U.asAgg x1 fun us77 => if 8 = sizes (us77.take 8) then (us77[8]?).bind fun e78 => U.asVar false 1 e78 fun e79 => (E 74 [e79]).bind fun t80 => some t80 else none)
 (some (.bool false)) else none) else none)
 (U.asAgg x1 fun us81 => if 7 = sizes (us81.take 7) then (us81[7]?).bind fun e82 => U.asVar false 1 e82 fun e83 => (E 73 [e83]).bind fun t84 => U.asBool t84
 (U.asAgg x1 fun us85 => if 8 = sizes (us85.take 8) then (us85[8]?).bind fun e86 => U.asVar false 1 e86 fun e87 => (E 74 [e87]).bind fun t88 => some t88 else none)
 (some (.bool false)) else none) else none) else none) else none) else none) else none) else none) else none) else none := by kernel_rfl

/-- In the environment E: this function and those that it calls. -/
structure G_impl_IsValidTransaction (E : Env) : Prop where
  is : Is E 159 1 impl_IsValidTransaction_ac [(2, none)]
  c_impl_in : G_impl_in E
  c_impl_isID : G_impl_isID E
  c_impl_isScheme : G_impl_isScheme E
  c_impl_IsStamp : G_impl_IsStamp E
  c_impl_areReads : G_impl_areReads E
  c_impl_areWrites : G_impl_areWrites E
theorem impl_IsValidTransaction_E {E : Env} (h : G_impl_IsValidTransaction E) (a0 : U) : E 159 [a0] =
 U.noTup a0 fun x1 => U.asAgg x1 fun us2 => if 0 = sizes (us2.take 0) then (us2[0]?).bind fun e3 => U.asVar false 1 e3 fun e4 => (E 9 [e4]).bind fun t5 => (U.un .not t5).bind fun t6 => U.asBool t6
 (some (.bool false))
 (U.asAgg x1 fun us7 => if 1 = sizes (us7.take 1) then (us7[1]?).bind fun e8 => U.asVar false 1 e8 fun e9 => (E 160 [e9]).bind fun t10 => (U.un .not t10).bind fun t11 => U.asBool t11
 (some (.bool false))
 (U.asAgg x1 fun us12 => if 2 = sizes (us12.take 2) then (us12[2]?).bind fun e13 => U.asVar false 1 e13 fun e14 => (E 10 [e14, (.int .i64 1), (.int .i64 3)]).bind fun t15 => (U.un .not t15).bind fun t16 => U.asBool t16
 (some (.bool false))
 (U.asAgg x1 fun us17 => if 3 = sizes (us17.take 3) then (us17[3]?).bind fun e18 => U.asVar false 1 e18 fun e19 => (E 10 [e19, (.int .i64 0), (.int .i64 999)]).bind fun t20 => (U.un .not t20).bind fun t21 => U.asBool t21
 (some (.bool false))
 (U.asAgg x1 fun us22 => if 4 = sizes (us22.take 4) then (us22[4]?).bind fun e23 => U.asVar false 1 e23 fun e24 => (E 10 [e24, (.int .i64 0), (.int .i64 999)]).bind fun t25 => (U.un .not t25).bind fun t26 => U.asBool t26
 (some (.bool false))
 (U.asAgg x1 fun us27 => if 5 = sizes (us27.take 5) then (us27[5]?).bind fun e28 => U.asVar false 1 e28 fun e29 => (E 10 [e29, (.int .i64 1), (.int .i64 1000)]).bind fun t30 => (U.un .not t30).bind fun t31 => U.asBool t31
 (some (.bool false))
 (U.asAgg x1 fun us32 => if 2 = sizes (us32.take 2) then (us32[2]?).bind fun e33 => U.asVar false 1 e33 fun e34 => (U.bin .eql e34 (.int .i64 2)).bind fun t35 => U.asBool t35
 (U.asAgg x1 fun us36 => if 6 = sizes (us36.take 6) then (us36[6]?).bind fun e37 => U.asVar false 1 e37 fun e38 => (E 72 [e38]).bind fun t39 => (U.un .not t39).bind fun t40 => U.asBool t40
 (some (.bool false))
 (U.asAgg x1 fun us41 => if 2 = sizes (us41.take 2) then (us41[2]?).bind fun e42 => U.asVar false 1 e42 fun e43 => (U.bin .neq e43 (.int .i64 2)).bind fun t44 => U.asBool t44
 (U.asAgg x1 fun us45 => if 6 = sizes (us45.take 6) then (us45[6]?).bind fun e46 => U.asVar false 1 e46 fun e47 => (U.bin .neq e47 (.int .i64 0)).bind fun t48 => U.asBool t48
 (some (.bool false))
 (U.asAgg x1 fun us49 => if 7 = sizes (us49.take 7) then (us49[7]?).bind fun e50 => U.asVar false 1 e50 fun e51 => (E 73 [e51]).bind fun t52 => U.asBool t52
 (U.asAgg x1 fun us53 => if 8 = sizes (us53.take 8) then (us53[8]?).bind fun e54 => U.asVar false 1 e54 fun e55 => (E 74 [e55]).bind fun t56 => some t56 else none)
 (some (.bool false)) else none) else none)
 (U.asAgg x1 fun us57 => if 7 = sizes (us57.take 7) then (us57[7]?).bind fun e58 => U.asVar false 1 e58 fun e59 => (E 73 [e59]).bind fun t60 => U.asBool t60
 (U.asAgg x1 fun us61 => if 8 = sizes (us61.take 8) then (us61[8]?).bind fun e62 => U.asVar false 1 e62 fun e63 => (E 74 [e63]).bind fun t64 => some t64 else none)
 (some (.bool false)) else none) else none) else none)
 (U.asAgg x1 fun us65 => if 2 = sizes (us65.take 2) then (us65[2]?).bind fun e66 => U.asVar false 1 e66 fun e67 => (U.bin .neq e67 (.int .i64 2)).bind fun t68 => U.asBool t68
 (U.asAgg x1 fun us69 => if 6 = sizes (us69.take 6) then (us69[6]?).bind fun e70 => U.asVar false 1 e70 fun e71 => (U.bin .neq e71 (.int .i64 0)).bind fun t72 => U.asBool t72
 (some (.bool false))
 (U.asAgg x1 fun us73 => if 7 = sizes (us73.take 7) then (us73[7]?).bind fun e74 => U.asVar false 1 e74 fun e75 => (E 73 [e75]).bind fun t76 => U.asBool t76
 (U.asAgg x1 fun us77 => if 8 = sizes (us77.take 8) then (us77[8]?).bind fun e78 => U.asVar false 1 e78 fun e79 => (E 74 [e79]).bind fun t80 => some t80 else none)
 (some (.bool false)) else none) else none)
 (U.asAgg x1 fun us81 => if 7 = sizes (us81.take 7) then (us81[7]?).bind fun e82 => U.asVar false 1 e82 fun e83 => (E 73 [e83]).bind fun t84 => U.asBool t84
 (U.asAgg x1 fun us85 => if 8 = sizes (us85.take 8) then (us85[8]?).bind fun e86 => U.asVar false 1 e86 fun e87 => (E 74 [e87]).bind fun t88 => some t88 else none)
 (some (.bool false)) else none) else none) else none) else none) else none) else none) else none) else none) else none := (h.is _ rfl).trans ((runQ_V rfl).trans (impl_IsValidTransaction_eq E a0))

end Go.Proofs.Ytfdcdbkblkehcaa.Am
namespace Go.Proofs.Ytfdcdbkblkehcaa.Am
open Go
set_option linter.unusedVariables false
set_option maxRecDepth 100000

/- (loop.example/g01924/impl.Transaction).isActive -/
def impl_Transaction_isActive_ac : AC :=
 (.seq (.region 0 [⟨some 1, .box false 1 (.t 0), none⟩,
  ⟨some 2, .mv (.c (.bool false)), none⟩])
 (.seq (.region 0 [⟨some 3, .faddr 2 2 (.t 1), none⟩,
  ⟨some 4, .load false 1 (.t 3), none⟩,
  ⟨some 5, .bin .eql (.t 4) (.c (.int .i64 1)), none⟩,
  ⟨some 6, .mv (.t 5), none⟩,
  ⟨some 7, .load true 9 (.t 1), some (6, true)⟩,
  ⟨some 8, .call false 159 [(.t 7)], some (6, true)⟩,
  ⟨some 9, .pick (.t 6) (.t 8) (.c (.bool false)), none⟩,
  ⟨some 2, .mv (.t 9), none⟩])
 .ret))

theorem impl_Transaction_isActive_eq (E : Env) (a0 : U) : run E impl_Transaction_isActive_ac [(2, none)] [a0] =
 U.noTup a0 fun x1 => U.asAgg x1 fun us2 => if 2 = sizes (us2.take 2) then (us2[2]?).bind fun e3 => U.asVar false 1 e3 fun e4 => (U.bin .eql e4 (.int .i64 1)).bind fun t5 => U.asBool t5
 (U.asVar true 9 x1 fun e6 => (E 159 [e6]).bind fun t7 => some t7)
 (some (.bool false)) else none := by kernel_rfl

/-- In the environment E: this function and those that it calls. -/
structure G_impl_Transaction_isActive (E : Env) : Prop where
  is : Is E 301 1 impl_Transaction_isActive_ac [(2, none)]
  c_impl_IsValidTransaction : G_impl_IsValidTransaction E
theorem impl_Transaction_isActive_E {E : Env} (h : G_impl_Transaction_isActive E) (a0 : U) : E 301 [a0] =
 U.noTup a0 fun x1 => U.asAgg x1 fun us2 => if 2 = sizes (us2.take 2) then (us2[2]?).bind fun e3 => U.asVar false 1 e3 fun e4 => (U.bin .eql e4 (.int .i64 1)).bind fun t5 => U.asBool t5
 (U.asVar true 9 x1 fun e6 => (E 159 [e6]).bind fun t7 => some t7)
 (some (.bool false)) else none := (h.is _ rfl).trans ((runQ_V rfl).trans (impl_Transaction_isActive_eq E a0))

end Go.Proofs.Ytfdcdbkblkehcaa.Am
namespace Go.Proofs.Ytfdcdbkblkehcaa.Am
open Go
set_option linter.unusedVariables false
set_option maxRecDepth 100000

/- loop.example/g01924/impl.AbortTransaction -/
def impl_AbortTransaction_ac : AC :=
 (.seq (.region 0 [⟨some 1, .box false 1 (.t 0), none⟩,
  ⟨some 2, .alloc 2 (.agg [(.int .i64 0), (.int .i64 0), (.int .i64 0), (.int .i64 0), (.int .i64 0), (.int .i64 0), (.int .i64 0), (.nsl 2), (.nsl 2)]), none⟩,
  ⟨some 3, .mv (.c (.bool false)), none⟩])
 (.seq (.region 0 [⟨some 5, .load true 9 (.t 1), none⟩,
  ⟨some 6, .call false 222 [(.t 5)], none⟩,
  ⟨some 4, .alloc 4 (.agg [(.int .i64 0), (.int .i64 0), (.int .i64 0), (.int .i64 0), (.int .i64 0), (.int .i64 0), (.int .i64 0), (.nsl 2), (.nsl 2)]), none⟩,
  ⟨none, .store 9 (.t 4) (.t 6), none⟩])
 (.seq (.seq (.region 0 [⟨some 7, .load true 9 (.t 1), none⟩,
  ⟨some 8, .call false 301 [(.t 7)], none⟩,
  ⟨some 9, .un .not (.t 8), none⟩])
 (.cond (.t 9) (.seq (.region 0 [⟨some 10, .load true 9 (.t 4), none⟩,
  ⟨none, .store 9 (.t 2) (.t 10), none⟩,
  ⟨some 3, .mv (.c (.bool false)), none⟩])
 .ret) .skip))
 (.seq (.region 0 [⟨some 11, .faddr 2 2 (.t 4), none⟩,
  ⟨none, .store 1 (.t 11) (.c (.int .i64 3)), none⟩])
 (.seq (.region 0 [⟨some 12, .load true 9 (.t 4), none⟩,
  ⟨none, .store 9 (.t 2) (.t 12), none⟩,
  ⟨some 3, .mv (.c (.bool true)), none⟩])
 .ret)))))

theorem impl_AbortTransaction_eq (E : Env) (a0 : U) : run E impl_AbortTransaction_ac [(2, some (true, 9)), (3, none)] [a0] =
 U.noTup a0 fun x1 => U.asVar true 9 x1 fun e2 => (E 222 [e2]).bind fun t3 => if storable (.val t3) = true ∧ t3.size = 9 then U.asVar true 9 x1 fun e4 => (E 301 [e4]).bind fun t5 => (U.un .not t5).bind fun t6 => U.asBool t6
 (U.asVar true 9 t3 fun e7 => if storable (.val e7) = true ∧ e7.size = 9 then U.asVar true 9 e7 fun e8 => U.noTup e8 fun x9 => some (.tup [x9, (.bool false)]) else none)
 (U.asAgg t3 fun us10 => if 2 = sizes (us10.take 2) then (us10[2]?).bind fun e11 => if e11.size = 1 then U.asVar true 9 (.agg (us10.set 2 (.int .i64 3))) fun e12 => if storable (.val e12) = true ∧ e12.size = 9 then U.asVar true 9 e12 fun e13 => U.noTup e13 fun x14 => some (.tup [x14, (.bool true)]) else none else none else none) else none := by kernel_rfl

/-- In the environment E: this function and those that it calls. -/
structure G_impl_AbortTransaction (E : Env) : Prop where
  is : Is E 328 1 impl_AbortTransaction_ac [(2, some (true, 9)), (3, none)]
  c_impl_Transaction_copied : G_impl_Transaction_copied E
  c_impl_Transaction_isActive : G_impl_Transaction_isActive E
theorem impl_AbortTransaction_E {E : Env} (h : G_impl_AbortTransaction E) (a0 : U) : E 328 [a0] =
 U.noTup a0 fun x1 => U.asVar true 9 x1 fun e2 => (E 222 [e2]).bind fun t3 => if storable (.val t3) = true ∧ t3.size = 9 then U.asVar true 9 x1 fun e4 => (E 301 [e4]).bind fun t5 => (U.un .not t5).bind fun t6 => U.asBool t6
 (U.asVar true 9 t3 fun e7 => if storable (.val e7) = true ∧ e7.size = 9 then U.asVar true 9 e7 fun e8 => U.noTup e8 fun x9 => some (.tup [x9, (.bool false)]) else none)
 (U.asAgg t3 fun us10 => if 2 = sizes (us10.take 2) then (us10[2]?).bind fun e11 => if e11.size = 1 then U.asVar true 9 (.agg (us10.set 2 (.int .i64 3))) fun e12 => if storable (.val e12) = true ∧ e12.size = 9 then U.asVar true 9 e12 fun e13 => U.noTup e13 fun x14 => some (.tup [x14, (.bool true)]) else none else none else none) else none := (h.is _ rfl).trans ((runQ_V rfl).trans (impl_AbortTransaction_eq E a0))

end Go.Proofs.Ytfdcdbkblkehcaa.Am
namespace Go.Proofs.Ytfdcdbkblkehcaa.Am
open Go
set_option linter.unusedVariables false
set_option maxRecDepth 100000

/- loop.example/g01924/laws.eqReadMark -/
def laws_eqReadMark_ac : AC :=
 (.seq (.region 0 [⟨some 2, .box false 2 (.t 0), none⟩,
  ⟨some 3, .box false 3 (.t 1), none⟩,
  ⟨some 4, .mv (.c (.bool false)), none⟩])
 (.seq (.seq (.region 0 [⟨some 5, .faddr 0 0 (.t 2), none⟩,
  ⟨some 6, .load false 1 (.t 5), none⟩,
  ⟨some 7, .faddr 0 0 (.t 3), none⟩,
  ⟨some 8, .load false 1 (.t 7), none⟩,
  ⟨some 9, .bin .neq (.t 6) (.t 8), none⟩])
 (.cond (.t 9) (.seq (.region 0 [⟨some 4, .mv (.c (.bool false)), none⟩])
 .ret) .skip))
 (.seq (.seq (.region 0 [⟨some 10, .faddr 1 1 (.t 2), none⟩,
  ⟨some 11, .load false 1 (.t 10), none⟩,
  ⟨some 12, .faddr 1 1 (.t 3), none⟩,
  ⟨some 13, .load false 1 (.t 12), none⟩,
  ⟨some 14, .bin .neq (.t 11) (.t 13), none⟩])
 (.cond (.t 14) (.seq (.region 0 [⟨some 4, .mv (.c (.bool false)), none⟩])
 .ret) .skip))
 (.seq (.region 0 [⟨some 4, .mv (.c (.bool true)), none⟩])
 .ret))))

theorem laws_eqReadMark_eq (E : Env) (a0 : U) (a1 : U) : run E laws_eqReadMark_ac [(4, none)] [a0, a1] =
 U.noTup a0 fun x1 => U.noTup a1 fun x2 => U.asAgg x1 fun us3 => if 0 = sizes (us3.take 0) then (us3[0]?).bind fun e4 => U.asVar false 1 e4 fun e5 => U.asAgg x2 fun us6 => if 0 = sizes (us6.take 0) then (us6[0]?).bind fun e7 => U.asVar false 1 e7 fun e8 => (U.bin .neq e5 e8).bind fun t9 => U.asBool t9
 (some (.bool false))
 (U.asAgg x1 fun us10 => if 1 = sizes (us10.take 1) then (us10[1]?).bind fun e11 => U.asVar false 1 e11 fun e12 => U.asAgg x2 fun us13 => if 1 = sizes (us13.take 1) then (us13[1]?).bind fun e14 => U.asVar false 1 e14 fun e15 => (U.bin .neq e12 e15).bind fun t16 => U.asBool t16
 (some (.bool false))
 (some (.bool true)) else none else none) else none else none := by kernel_rfl

/-- In the environment E: this function and those that it calls. -/
structure G_laws_eqReadMark (E : Env) : Prop where
  is : Is E 35 2 laws_eqReadMark_ac [(4, none)]
theorem laws_eqReadMark_E {E : Env} (h : G_laws_eqReadMark E) (a0 a1 : U) : E 35 [a0, a1] =
 U.noTup a0 fun x1 => U.noTup a1 fun x2 => U.asAgg x1 fun us3 => if 0 = sizes (us3.take 0) then (us3[0]?).bind fun e4 => U.asVar false 1 e4 fun e5 => U.asAgg x2 fun us6 => if 0 = sizes (us6.take 0) then (us6[0]?).bind fun e7 => U.asVar false 1 e7 fun e8 => (U.bin .neq e5 e8).bind fun t9 => U.asBool t9
 (some (.bool false))
 (U.asAgg x1 fun us10 => if 1 = sizes (us10.take 1) then (us10[1]?).bind fun e11 => U.asVar false 1 e11 fun e12 => U.asAgg x2 fun us13 => if 1 = sizes (us13.take 1) then (us13[1]?).bind fun e14 => U.asVar false 1 e14 fun e15 => (U.bin .neq e12 e15).bind fun t16 => U.asBool t16
 (some (.bool false))
 (some (.bool true)) else none else none) else none else none := (h.is _ rfl).trans ((runQ_V rfl).trans (laws_eqReadMark_eq E a0 a1))

end Go.Proofs.Ytfdcdbkblkehcaa.Am
namespace Go.Proofs.Ytfdcdbkblkehcaa.Am
open Go
set_option linter.unusedVariables false
set_option maxRecDepth 100000

/- loop.example/g01924/laws.eqReadMarkS -/
def laws_eqReadMarkS_b0 : AC :=
 (.seq (.seq (.region 0 [⟨some 11, .mv (.t 5), none⟩,
  ⟨some 12, .mv (.t 0), none⟩,
  ⟨some 13, .len false (.t 12), none⟩,
  ⟨some 14, .bin .lss (.t 11) (.t 13), none⟩])
 (.cond (.t 14) .skip (.exit 0)))
 (.seq (.block 1 (.seq (.region 10 [⟨some 17, .mv (.t 0), none⟩,
  ⟨some 18, .mv (.t 5), none⟩,
  ⟨some 19, .iaddr 2 (.t 17) (.t 18), none⟩,
  ⟨some 20, .load true 2 (.t 19), none⟩,
  ⟨some 21, .mv (.t 1), none⟩,
  ⟨some 22, .mv (.t 5), none⟩,
  ⟨some 23, .iaddr 2 (.t 21) (.t 22), none⟩,
  ⟨some 24, .load true 2 (.t 23), none⟩,
  ⟨some 25, .call false 35 [(.t 20), (.t 24)], none⟩,
  ⟨some 26, .un .not (.t 25), none⟩])
 (.cond (.t 26) (.seq (.region 0 [⟨some 4, .mv (.c (.bool false)), none⟩])
 .ret) .skip)))
 (.region 0 [⟨some 15, .mv (.t 5), none⟩,
  ⟨some 16, .bin .add (.t 15) (.c (.int .i64 1)), none⟩,
  ⟨some 5, .mv (.t 16), none⟩])))
def laws_eqReadMarkS_r0 : AC :=
 (.seq (.region 0 [⟨some 4, .mv (.c (.bool true)), none⟩])
 .ret)
def laws_eqReadMarkS_ac : AC :=
 (.seq (.region 0 [⟨some 4, .mv (.c (.bool false)), none⟩])
 (.seq (.seq (.region 0 [⟨some 6, .mv (.t 0), none⟩,
  ⟨some 7, .len false (.t 6), none⟩,
  ⟨some 8, .mv (.t 1), none⟩,
  ⟨some 9, .len false (.t 8), none⟩,
  ⟨some 10, .bin .neq (.t 7) (.t 9), none⟩])
 (.cond (.t 10) (.seq (.region 0 [⟨some 4, .mv (.c (.bool false)), none⟩])
 .ret) .skip))
 (.seq (.seq (.region 0 [⟨some 5, .mv (.c (.int .i64 0)), none⟩])
 (.block 0 (.loop ⟨[0, 1, 5], [], []⟩ laws_eqReadMarkS_b0)))
 laws_eqReadMarkS_r0)))
noncomputable def laws_eqReadMarkS_l0 (E : Env) (x0 : U) (x1 : U) (x5 : U) : Option U := loopK (roundOf E ⟨[0, 1, 5], [], []⟩ laws_eqReadMarkS_b0 (blockK 0 (seqK (fun s => exec E laws_eqReadMarkS_r0 s (finish [(4, none)])) (finish [(4, none)])))) ([.val x0, .val x1, .val x5], [])
theorem laws_eqReadMarkS_eq (E : Env) (a0 : U) (a1 : U) : run E laws_eqReadMarkS_ac [(4, none)] [a0, a1] =
 (U.lenOf false a0).bind fun n1 => (U.lenOf false a1).bind fun n2 => (U.bin .neq (.int .i64 (n1 : Int)) (.int .i64 (n2 : Int))).bind fun t3 => U.asBool t3
 (some (.bool false))
 (laws_eqReadMarkS_l0 E a0 a1 (.int .i64 0)) := by kernel_rfl
theorem laws_eqReadMarkS_l0_eq (E : Env) (x0 : U) (x1 : U) (x5 : U) : laws_eqReadMarkS_l0 E x0 x1 x5 =
 (U.lenOf false x0).bind fun n4 => (U.bin .lss x5 (.int .i64 (n4 : Int))).bind fun t5 => U.asBool t5
 (U.asInt x5 fun n6 => U.elemAt 2 x0 n6 fun e7 => U.asVar true 2 e7 fun e8 => U.asInt x5 fun n9 => U.elemAt 2 x1 n9 fun e10 => U.asVar true 2 e10 fun e11 => (E 35 [e8, e11]).bind fun t12 => (U.un .not t12).bind fun t13 => U.asBool t13
 (some (.bool false))
 ((U.bin .add x5 (.int .i64 1)).bind fun t14 => laws_eqReadMarkS_l0 E x0 x1 t14))
 (some (.bool true)) :=
 (loop_eq E _ _ _ _).trans (by kernel_rfl)

/-- In the environment E: this function and those that it calls. -/
structure G_laws_eqReadMarkS (E : Env) : Prop where
  is : Is E 34 2 laws_eqReadMarkS_ac [(4, none)]
  c_laws_eqReadMark : G_laws_eqReadMark E
theorem laws_eqReadMarkS_E {E : Env} (h : G_laws_eqReadMarkS E) (a0 a1 : U) : E 34 [a0, a1] =
 (U.lenOf false a0).bind fun n1 => (U.lenOf false a1).bind fun n2 => (U.bin .neq (.int .i64 (n1 : Int)) (.int .i64 (n2 : Int))).bind fun t3 => U.asBool t3
 (some (.bool false))
 (laws_eqReadMarkS_l0 E a0 a1 (.int .i64 0)) := (h.is _ rfl).trans ((runQ_V rfl).trans (laws_eqReadMarkS_eq E a0 a1))

end Go.Proofs.Ytfdcdbkblkehcaa.Am
namespace Go.Proofs.Ytfdcdbkblkehcaa.Am
open Go
set_option linter.unusedVariables false
set_option maxRecDepth 100000

/- loop.example/g01924/laws.eqWrite -/
def laws_eqWrite_ac : AC :=
 (.seq (.region 0 [⟨some 2, .box false 2 (.t 0), none⟩,
  ⟨some 3, .box false 3 (.t 1), none⟩,
  ⟨some 4, .mv (.c (.bool false)), none⟩])
 (.seq (.seq (.region 0 [⟨some 5, .faddr 0 0 (.t 2), none⟩,
  ⟨some 6, .load false 1 (.t 5), none⟩,
  ⟨some 7, .faddr 0 0 (.t 3), none⟩,
  ⟨some 8, .load false 1 (.t 7), none⟩,
  ⟨some 9, .bin .neq (.t 6) (.t 8), none⟩])
 (.cond (.t 9) (.seq (.region 0 [⟨some 4, .mv (.c (.bool false)), none⟩])
 .ret) .skip))
 (.seq (.seq (.region 0 [⟨some 10, .faddr 1 1 (.t 2), none⟩,
  ⟨some 11, .load false 1 (.t 10), none⟩,
  ⟨some 12, .faddr 1 1 (.t 3), none⟩,
  ⟨some 13, .load false 1 (.t 12), none⟩,
  ⟨some 14, .bin .neq (.t 11) (.t 13), none⟩])
 (.cond (.t 14) (.seq (.region 0 [⟨some 4, .mv (.c (.bool false)), none⟩])
 .ret) .skip))
 (.seq (.region 0 [⟨some 4, .mv (.c (.bool true)), none⟩])
 .ret))))

theorem laws_eqWrite_eq (E : Env) (a0 : U) (a1 : U) : run E laws_eqWrite_ac [(4, none)] [a0, a1] =
 U.noTup a0 fun x1 => U.noTup a1 fun x2 => U.asAgg x1 fun us3 => if 0 = sizes (us3.take 0) then (us3[0]?).bind fun e4 => U.asVar false 1 e4 fun e5 => U.asAgg x2 fun us6 => if 0 = sizes (us6.take 0) then (us6[0]?).bind fun e7 => U.asVar false 1 e7 fun e8 => (U.bin .neq e5 e8).bind fun t9 => U.asBool t9
 (some (.bool false))
 (U.asAgg x1 fun us10 => if 1 = sizes (us10.take 1) then (us10[1]?).bind fun e11 => U.asVar false 1 e11 fun e12 => U.asAgg x2 fun us13 => if 1 = sizes (us13.take 1) then (us13[1]?).bind fun e14 => U.asVar false 1 e14 fun e15 => (U.bin .neq e12 e15).bind fun t16 => U.asBool t16
 (some (.bool false))
 (some (.bool true)) else none else none) else none else none := by kernel_rfl

/-- In the environment E: this function and those that it calls. -/
structure G_laws_eqWrite (E : Env) : Prop where
  is : Is E 36 2 laws_eqWrite_ac [(4, none)]
theorem laws_eqWrite_E {E : Env} (h : G_laws_eqWrite E) (a0 a1 : U) : E 36 [a0, a1] =
 U.noTup a0 fun x1 => U.noTup a1 fun x2 => U.asAgg x1 fun us3 => if 0 = sizes (us3.take 0) then (us3[0]?).bind fun e4 => U.asVar false 1 e4 fun e5 => U.asAgg x2 fun us6 => if 0 = sizes (us6.take 0) then (us6[0]?).bind fun e7 => U.asVar false 1 e7 fun e8 => (U.bin .neq e5 e8).bind fun t9 => U.asBool t9
 (some (.bool false))
 (U.asAgg x1 fun us10 => if 1 = sizes (us10.take 1) then (us10[1]?).bind fun e11 => U.asVar false 1 e11 fun e12 => U.asAgg x2 fun us13 => if 1 = sizes (us13.take 1) then (us13[1]?).bind fun e14 => U.asVar false 1 e14 fun e15 => (U.bin .neq e12 e15).bind fun t16 => U.asBool t16
 (some (.bool false))
 (some (.bool true)) else none else none) else none else none := (h.is _ rfl).trans ((runQ_V rfl).trans (laws_eqWrite_eq E a0 a1))

end Go.Proofs.Ytfdcdbkblkehcaa.Am
namespace Go.Proofs.Ytfdcdbkblkehcaa.Am
open Go
set_option linter.unusedVariables false
set_option maxRecDepth 100000

/- loop.example/g01924/laws.eqWriteS -/
def laws_eqWriteS_b0 : AC :=
 (.seq (.seq (.region 0 [⟨some 11, .mv (.t 5), none⟩,
  ⟨some 12, .mv (.t 0), none⟩,
  ⟨some 13, .len false (.t 12), none⟩,
  ⟨some 14, .bin .lss (.t 11) (.t 13), none⟩])
 (.cond (.t 14) .skip (.exit 0)))
 (.seq (.block 1 (.seq (.region 10 [⟨some 17, .mv (.t 0), none⟩,
  ⟨some 18, .mv (.t 5), none⟩,
  ⟨some 19, .iaddr 2 (.t 17) (.t 18), none⟩,
  ⟨some 20, .load true 2 (.t 19), none⟩,
  ⟨some 21, .mv (.t 1), none⟩,
  ⟨some 22, .mv (.t 5), none⟩,
  ⟨some 23, .iaddr 2 (.t 21) (.t 22), none⟩,
  ⟨some 24, .load true 2 (.t 23), none⟩,
  ⟨some 25, .call false 36 [(.t 20), (.t 24)], none⟩,
  ⟨some 26, .un .not (.t 25), none⟩])
 (.cond (.t 26) (.seq (.region 0 [⟨some 4, .mv (.c (.bool false)), none⟩])
 .ret) .skip)))
 (.region 0 [⟨some 15, .mv (.t 5), none⟩,
  ⟨some 16, .bin .add (.t 15) (.c (.int .i64 1)), none⟩,
  ⟨some 5, .mv (.t 16), none⟩])))
def laws_eqWriteS_r0 : AC :=
 (.seq (.region 0 [⟨some 4, .mv (.c (.bool true)), none⟩])
 .ret)
def laws_eqWriteS_ac : AC :=
 (.seq (.region 0 [⟨some 4, .mv (.c (.bool false)), none⟩])
 (.seq (.seq (.region 0 [⟨some 6, .mv (.t 0), none⟩,
  ⟨some 7, .len false (.t 6), none⟩,
  ⟨some 8, .mv (.t 1), none⟩,
  ⟨some 9, .len false (.t 8), none⟩,
  ⟨some 10, .bin .neq (.t 7) (.t 9), none⟩])
 (.cond (.t 10) (.seq (.region 0 [⟨some 4, .mv (.c (.bool false)), none⟩])
 .ret) .skip))
 (.seq (.seq (.region 0 [⟨some 5, .mv (.c (.int .i64 0)), none⟩])
 (.block 0 (.loop ⟨[0, 1, 5], [], []⟩ laws_eqWriteS_b0)))
 laws_eqWriteS_r0)))
noncomputable def laws_eqWriteS_l0 (E : Env) (x0 : U) (x1 : U) (x5 : U) : Option U := loopK (roundOf E ⟨[0, 1, 5], [], []⟩ laws_eqWriteS_b0 (blockK 0 (seqK (fun s => exec E laws_eqWriteS_r0 s (finish [(4, none)])) (finish [(4, none)])))) ([.val x0, .val x1, .val x5], [])
theorem laws_eqWriteS_eq (E : Env) (a0 : U) (a1 : U) : run E laws_eqWriteS_ac [(4, none)] [a0, a1] =
 (U.lenOf false a0).bind fun n1 => (U.lenOf false a1).bind fun n2 => (U.bin .neq (.int .i64 (n1 : Int)) (.int .i64 (n2 : Int))).bind fun t3 => U.asBool t3
 (some (.bool false))
 (laws_eqWriteS_l0 E a0 a1 (.int .i64 0)) := by kernel_rfl
theorem laws_eqWriteS_l0_eq (E : Env) (x0 : U) (x1 : U) (x5 : U) : laws_eqWriteS_l0 E x0 x1 x5 =
 (U.lenOf false x0).bind fun n4 => (U.bin .lss x5 (.int .i64 (n4 : Int))).bind fun t5 => U.asBool t5
 (U.asInt x5 fun n6 => U.elemAt 2 x0 n6 fun e7 => U.asVar true 2 e7 fun e8 => U.asInt x5 fun n9 => U.elemAt 2 x1 n9 fun e10 => U.asVar true 2 e10 fun e11 => (E 36 [e8, e11]).bind fun t12 => (U.un .not t12).bind fun t13 => U.asBool t13
 (some (.bool false))
 ((U.bin .add x5 (.int .i64 1)).bind fun t14 => laws_eqWriteS_l0 E x0 x1 t14))
 (some (.bool true)) :=
 (loop_eq E _ _ _ _).trans (by kernel_rfl)

/-- In the environment E: this function and those that it calls. -/
structure G_laws_eqWriteS (E : Env) : Prop where
  is : Is E 33 2 laws_eqWriteS_ac [(4, none)]
  c_laws_eqWrite : G_laws_eqWrite E
theorem laws_eqWriteS_E {E : Env} (h : G_laws_eqWriteS E) (a0 a1 : U) : E 33 [a0, a1] =
 (U.lenOf false a0).bind fun n1 => (U.lenOf false a1).bind fun n2 => (U.bin .neq (.int .i64 (n1 : Int)) (.int .i64 (n2 : Int))).bind fun t3 => U.asBool t3
 (some (.bool false))
 (laws_eqWriteS_l0 E a0 a1 (.int .i64 0)) := (h.is _ rfl).trans ((runQ_V rfl).trans (laws_eqWriteS_eq E a0 a1))

end Go.Proofs.Ytfdcdbkblkehcaa.Am
namespace Go.Proofs.Ytfdcdbkblkehcaa.Am
open Go
set_option linter.unusedVariables false
set_option maxRecDepth 100000

/- loop.example/g01924/laws.eqTransaction -/
def laws_eqTransaction_ac : AC :=
 (.seq (.region 0 [⟨some 2, .box false 2 (.t 0), none⟩,
  ⟨some 3, .box false 3 (.t 1), none⟩,
  ⟨some 4, .mv (.c (.bool false)), none⟩])
 (.seq (.seq (.region 0 [⟨some 5, .faddr 0 0 (.t 2), none⟩,
  ⟨some 6, .load false 1 (.t 5), none⟩,
  ⟨some 7, .faddr 0 0 (.t 3), none⟩,
  ⟨some 8, .load false 1 (.t 7), none⟩,
  ⟨some 9, .bin .neq (.t 6) (.t 8), none⟩])
 (.cond (.t 9) (.seq (.region 0 [⟨some 4, .mv (.c (.bool false)), none⟩])
 .ret) .skip))
 (.seq (.seq (.region 0 [⟨some 10, .faddr 1 1 (.t 2), none⟩,
  ⟨some 11, .load false 1 (.t 10), none⟩,
  ⟨some 12, .faddr 1 1 (.t 3), none⟩,
  ⟨some 13, .load false 1 (.t 12), none⟩,
  ⟨some 14, .bin .neq (.t 11) (.t 13), none⟩])
 (.cond (.t 14) (.seq (.region 0 [⟨some 4, .mv (.c (.bool false)), none⟩])
 .ret) .skip))
 (.seq (.seq (.region 0 [⟨some 15, .faddr 2 2 (.t 2), none⟩,
  ⟨some 16, .load false 1 (.t 15), none⟩,
  ⟨some 17, .faddr 2 2 (.t 3), none⟩,
  ⟨some 18, .load false 1 (.t 17), none⟩,
  ⟨some 19, .bin .neq (.t 16) (.t 18), none⟩])
 (.cond (.t 19) (.seq (.region 0 [⟨some 4, .mv (.c (.bool false)), none⟩])
 .ret) .skip))
 (.seq (.seq (.region 0 [⟨some 20, .faddr 3 3 (.t 2), none⟩,
  ⟨some 21, .load false 1 (.t 20), none⟩,
  ⟨some 22, .faddr 3 3 (.t 3), none⟩,
  ⟨some 23, .load false 1 (.t 22), none⟩,
  ⟨some 24, .bin .neq (.t 21) (.t 23), none⟩])
 (.cond (.t 24) (.seq (.region 0 [⟨some 4, .mv (.c (.bool false)), none⟩])
 .ret) .skip))
 (.seq (.seq (.region 0 [⟨some 25, .faddr 4 4 (.t 2), none⟩,
  ⟨some 26, .load false 1 (.t 25), none⟩,
  ⟨some 27, .faddr 4 4 (.t 3), none⟩,
  ⟨some 28, .load false 1 (.t 27), none⟩,
  ⟨some 29, .bin .neq (.t 26) (.t 28), none⟩])
 (.cond (.t 29) (.seq (.region 0 [⟨some 4, .mv (.c (.bool false)), none⟩])
 .ret) .skip))
 (.seq (.seq (.region 0 [⟨some 30, .faddr 5 5 (.t 2), none⟩,
  ⟨some 31, .load false 1 (.t 30), none⟩,
  ⟨some 32, .faddr 5 5 (.t 3), none⟩,
  ⟨some 33, .load false 1 (.t 32), none⟩,
  ⟨some 34, .bin .neq (.t 31) (.t 33), none⟩])
 (.cond (.t 34) (.seq (.region 0 [⟨some 4, .mv (.c (.bool false)), none⟩])
 .ret) .skip))
 (.seq (.seq (.region 0 [⟨some 35, .faddr 6 6 (.t 2), none⟩,
  ⟨some 36, .load false 1 (.t 35), none⟩,
  ⟨some 37, .faddr 6 6 (.t 3), none⟩,
  ⟨some 38, .load false 1 (.t 37), none⟩,
  ⟨some 39, .bin .neq (.t 36) (.t 38), none⟩])
 (.cond (.t 39) (.seq (.region 0 [⟨some 4, .mv (.c (.bool false)), none⟩])
 .ret) .skip))
 (.seq (.seq (.region 0 [⟨some 40, .faddr 7 7 (.t 2), none⟩,
  ⟨some 41, .load false 1 (.t 40), none⟩,
  ⟨some 42, .faddr 7 7 (.t 3), none⟩,
  ⟨some 43, .load false 1 (.t 42), none⟩,
  ⟨some 44, .call false 34 [(.t 41), (.t 43)], none⟩,
  ⟨some 45, .un .not (.t 44), none⟩])
 (.cond (.t 45) (.seq (.region 0 [⟨some 4, .mv (.c (.bool false)), none⟩])
 .ret) .skip))
 (.seq (.seq (.region 0 [⟨some 46, .faddr 8 8 (.t 2), none⟩,
  ⟨some 47, .load false 1 (.t 46), none⟩,
  ⟨some 48, .faddr 8 8 (.t 3), none⟩,
  ⟨some 49, .load false 1 (.t 48), none⟩,
  ⟨some 50, .call false 33 [(.t 47), (.t 49)], none⟩,
  ⟨some 51, .un .not (.t 50), none⟩])
 (.cond (.t 51) (.seq (.region 0 [⟨some 4, .mv (.c (.bool false)), none⟩])
 .ret) .skip))
 (.seq (.region 0 [⟨some 4, .mv (.c (.bool true)), none⟩])
 .ret)))))))))))

theorem laws_eqTransaction_eq (E : Env) (a0 : U) (a1 : U) : run E laws_eqTransaction_ac [(4, none)] [a0, a1] =
 U.noTup a0 fun x1 => U.noTup a1 fun x2 => U.asAgg x1 fun us3 => if 0 = sizes (us3.take 0) then (us3[0]?).bind fun e4 => U.asVar false 1 e4 fun e5 => U.asAgg x2 fun us6 => if 0 = sizes (us6.take 0) then (us6[0]?).bind fun e7 => U.asVar false 1 e7 fun e8 => (U.bin .neq e5 e8).bind fun t9 => U.asBool t9
 (some (.bool false))
 (U.asAgg x1 fun us10 => if 1 = sizes (us10.take 1) then (us10[1]?).bind fun e11 => U.asVar false 1 e11 fun e12 => U.asAgg x2 fun us13 => if 1 = sizes (us13.take 1) then (us13[1]?).bind fun e14 => U.asVar false 1 e14 fun e15 => (U.bin .neq e12 e15).bind fun t16 => U.asBool t16
 (some (.bool false))
 (U.asAgg x1 fun us17 => if 2 = sizes (us17.take 2) then (us17[2]?).bind fun e18 => U.asVar false 1 e18 fun e19 => U.asAgg x2 fun us20 => if 2 = sizes (us20.take 2) then (us20[2]?).bind fun e21 => U.asVar false 1 e21 fun e22 => (U.bin .neq e19 e22).bind fun t23 => U.asBool t23
 (some (.bool false))
 (U.asAgg x1 fun us24 => if 3 = sizes (us24.take 3) then (us24[3]?).bind fun e25 => U.asVar false 1 e25 fun e26 => U.asAgg x2 fun us27 => if 3 = sizes (us27.take 3) then (us27[3]?).bind fun e28 => U.asVar false 1 e28 fun e29 => (U.bin .neq e26 e29).bind fun t30 => U.asBool t30
 (some (.bool false))
 (U.asAgg x1 fun us31 => if 4 = sizes (us31.take 4) then (us31[4]?).bind fun e32 => U.asVar false 1 e32 fun e33 => U.asAgg x2 fun us34 => if 4 = sizes (us34.take 4) then (us34[4]?).bind fun e35 => U.asVar false 1 e35 fun e36 => (U.bin .neq e33 e36).bind fun t37 => U.asBool t37
 (some (.bool false))
 (U.asAgg x1 fun us38 => if 5 = sizes (us38.take 5) then (us38[5]?).bind fun e39 => U.asVar false 1 e39 fun e40 => U.asAgg x2 fun us41 => if 5 = sizes (us41.take 5) then (us41[5]?).bind fun e42 => U.asVar false 1 e42 fun e43 => (U.bin .neq e40 e43).bind fun t44 => U.asBool t44
 (some (.bool false))
 (U.asAgg x1 fun us45 => if 6 = sizes (us45.take 6) then (us45[6]?).bind fun e46 => U.asVar false 1 e46 fun e47 => U.asAgg x2 fun us48 => if 6 = sizes (us48.take 6) then (us48[6]?).bind fun e49 => U.asVar false 1 e49 fun e50 => (U.bin .neq e47 e50).bind fun t51 => U.asBool t51
 (some (.bool false))
 (U.asAgg x1 fun us52 => if 7 = sizes (us52.take 7) then (us52[7]?).bind fun e53 => U.asVar false 1 e53 fun e54 => U.asAgg x2 fun us55 => if 7 = sizes (us55.take 7) then (us55[7]?).bind fun e56 => U.asVar false 1 e56 fun e57 => (E 34 [e54, e57]).bind fun t58 => (U.un .not t58).bind fun t59 => U.asBool t59
 (some (.bool false))
 (U.asAgg x1 fun us60 => if 8 = sizes (us60.take 8) then (us60[8]?).bind fun e61 => U.asVar false 1 e61 fun e62 => U.asAgg x2 fun us63 => if 8 = sizes (us63.take 8) then (us63[8]?).bind fun e64 => U.asVar false 1 e64 fun e65 => (E 33 [e62, e65]).bind fun t66 => (U.un .not t66).bind fun t67 => U.asBool t67
 (some (.bool false))
 (some (.bool true)) else none else none) else none else none) else none else none) else none else none) else none else none) else none else none) else none else none) else none else none) else none else none := by kernel_rfl

/-- In the environment E: this function and those that it calls. -/
structure G_laws_eqTransaction (E : Env) : Prop where
  is : Is E 177 2 laws_eqTransaction_ac [(4, none)]
  c_laws_eqReadMarkS : G_laws_eqReadMarkS E
  c_laws_eqWriteS : G_laws_eqWriteS E
theorem laws_eqTransaction_E {E : Env} (h : G_laws_eqTransaction E) (a0 a1 : U) : E 177 [a0, a1] =
 U.noTup a0 fun x1 => U.noTup a1 fun x2 => U.asAgg x1 fun us3 => if 0 = sizes (us3.take 0) then (us3[0]?).bind fun e4 => U.asVar false 1 e4 fun e5 => U.asAgg x2 fun us6 => if 0 = sizes (us6.take 0) then (us6[0]?).bind fun e7 => U.asVar false 1 e7 fun e8 => (U.bin .neq e5 e8).bind fun t9 => U.asBool t9
 (some (.bool false))
 (U.asAgg x1 fun us10 => if 1 = sizes (us10.take 1) then (us10[1]?).bind fun e11 => U.asVar false 1 e11 fun e12 => U.asAgg x2 fun us13 => if 1 = sizes (us13.take 1) then (us13[1]?).bind fun e14 => U.asVar false 1 e14 fun e15 => (U.bin .neq e12 e15).bind fun t16 => U.asBool t16
 (some (.bool false))
 (U.asAgg x1 fun us17 => if 2 = sizes (us17.take 2) then (us17[2]?).bind fun e18 => U.asVar false 1 e18 fun e19 => U.asAgg x2 fun us20 => if 2 = sizes (us20.take 2) then (us20[2]?).bind fun e21 => U.asVar false 1 e21 fun e22 => (U.bin .neq e19 e22).bind fun t23 => U.asBool t23
 (some (.bool false))
 (U.asAgg x1 fun us24 => if 3 = sizes (us24.take 3) then (us24[3]?).bind fun e25 => U.asVar false 1 e25 fun e26 => U.asAgg x2 fun us27 => if 3 = sizes (us27.take 3) then (us27[3]?).bind fun e28 => U.asVar false 1 e28 fun e29 => (U.bin .neq e26 e29).bind fun t30 => U.asBool t30
 (some (.bool false))
 (U.asAgg x1 fun us31 => if 4 = sizes (us31.take 4) then (us31[4]?).bind fun e32 => U.asVar false 1 e32 fun e33 => U.asAgg x2 fun us34 => if 4 = sizes (us34.take 4) then (us34[4]?).bind fun e35 => U.asVar false 1 e35 fun e36 => (U.bin .neq e33 e36).bind fun t37 => U.asBool t37
 (some (.bool false))
 (U.asAgg x1 fun us38 => if 5 = sizes (us38.take 5) then (us38[5]?).bind fun e39 => U.asVar false 1 e39 fun e40 => U.asAgg x2 fun us41 => if 5 = sizes (us41.take 5) then (us41[5]?).bind fun e42 => U.asVar false 1 e42 fun e43 => (U.bin .neq e40 e43).bind fun t44 => U.asBool t44
 (some (.bool false))
 (U.asAgg x1 fun us45 => if 6 = sizes (us45.take 6) then (us45[6]?).bind fun e46 => U.asVar false 1 e46 fun e47 => U.asAgg x2 fun us48 => if 6 = sizes (us48.take 6) then (us48[6]?).bind fun e49 => U.asVar false 1 e49 fun e50 => (U.bin .neq e47 e50).bind fun t51 => U.asBool t51
 (some (.bool false))
 (U.asAgg x1 fun us52 => if 7 = sizes (us52.take 7) then (us52[7]?).bind fun e53 => U.asVar false 1 e53 fun e54 => U.asAgg x2 fun us55 => if 7 = sizes (us55.take 7) then (us55[7]?).bind fun e56 => U.asVar false 1 e56 fun e57 => (E 34 [e54, e57]).bind fun t58 => (U.un .not t58).bind fun t59 => U.asBool t59
 (some (.bool false))
 (U.asAgg x1 fun us60 => if 8 = sizes (us60.take 8) then (us60[8]?).bind fun e61 => U.asVar false 1 e61 fun e62 => U.asAgg x2 fun us63 => if 8 = sizes (us63.take 8) then (us63[8]?).bind fun e64 => U.asVar false 1 e64 fun e65 => (E 33 [e62, e65]).bind fun t66 => (U.un .not t66).bind fun t67 => U.asBool t67
 (some (.bool false))
 (some (.bool true)) else none else none) else none else none) else none else none) else none else none) else none else none) else none else none) else none else none) else none else none) else none else none := (h.is _ rfl).trans ((runQ_V rfl).trans (laws_eqTransaction_eq E a0 a1))

end Go.Proofs.Ytfdcdbkblkehcaa.Am
namespace Go.Proofs.Ytfdcdbkblkehcaa.Am
open Go
set_option linter.unusedVariables false
set_option maxRecDepth 100000

/- loop.example/g01924/laws.heldReadMarkS -/
def laws_heldReadMarkS_b0 : AC :=
 (.seq (.seq (.region 0 [⟨some 6, .mv (.t 5), none⟩,
  ⟨some 7, .mv (.t 0), none⟩,
  ⟨some 8, .len false (.t 7), none⟩,
  ⟨some 9, .bin .lss (.t 6) (.t 8), none⟩])
 (.cond (.t 9) .skip (.exit 0)))
 (.seq (.block 1 (.seq (.seq (.region 0 [⟨some 12, .mv (.t 0), none⟩,
  ⟨some 13, .mv (.t 5), none⟩,
  ⟨some 14, .iaddr 2 (.t 12) (.t 13), none⟩,
  ⟨some 15, .faddr 0 0 (.t 14), none⟩,
  ⟨some 16, .load false 1 (.t 15), none⟩,
  ⟨some 17, .mv (.t 1), none⟩,
  ⟨some 18, .bin .neq (.t 16) (.t 17), none⟩])
 (.cond (.t 18) (.seq (.region 0 [⟨some 4, .mv (.c (.int .i64 (-1))), none⟩])
 .ret) .skip))
 (.seq (.region 0 [⟨some 19, .mv (.t 1), none⟩,
  ⟨some 20, .bin .add (.t 19) (.c (.int .i64 1)), none⟩,
  ⟨some 1, .mv (.t 20), none⟩])
 (.seq (.seq (.region 0 [⟨some 21, .mv (.t 0), none⟩,
  ⟨some 22, .mv (.t 5), none⟩,
  ⟨some 23, .iaddr 2 (.t 21) (.t 22), none⟩,
  ⟨some 24, .faddr 1 1 (.t 23), none⟩,
  ⟨some 25, .load false 1 (.t 24), none⟩,
  ⟨some 26, .mv (.t 1), none⟩,
  ⟨some 27, .bin .neq (.t 25) (.t 26), none⟩])
 (.cond (.t 27) (.seq (.region 0 [⟨some 4, .mv (.c (.int .i64 (-1))), none⟩])
 .ret) .skip))
 (.region 0 [⟨some 28, .mv (.t 1), none⟩,
  ⟨some 29, .bin .add (.t 28) (.c (.int .i64 1)), none⟩,
  ⟨some 1, .mv (.t 29), none⟩])))))
 (.region 0 [⟨some 10, .mv (.t 5), none⟩,
  ⟨some 11, .bin .add (.t 10) (.c (.int .i64 1)), none⟩,
  ⟨some 5, .mv (.t 11), none⟩])))
def laws_heldReadMarkS_r0 : AC :=
 (.seq (.region 0 [⟨some 30, .mv (.t 1), none⟩,
  ⟨some 4, .mv (.t 30), none⟩])
 .ret)
def laws_heldReadMarkS_ac : AC :=
 (.seq (.region 0 [⟨some 4, .mv (.c (.int .i64 0)), none⟩])
 (.seq (.seq (.region 0 [⟨some 5, .mv (.c (.int .i64 0)), none⟩])
 (.block 0 (.loop ⟨[0, 1, 5], [], []⟩ laws_heldReadMarkS_b0)))
 laws_heldReadMarkS_r0))
noncomputable def laws_heldReadMarkS_l0 (E : Env) (x0 : U) (x1 : U) (x5 : U) : Option U := loopK (roundOf E ⟨[0, 1, 5], [], []⟩ laws_heldReadMarkS_b0 (blockK 0 (seqK (fun s => exec E laws_heldReadMarkS_r0 s (finish [(4, none)])) (finish [(4, none)])))) ([.val x0, .val x1, .val x5], [])
theorem laws_heldReadMarkS_eq (E : Env) (a0 : U) (a1 : U) : run E laws_heldReadMarkS_ac [(4, none)] [a0, a1] =
 laws_heldReadMarkS_l0 E a0 a1 (.int .i64 0) := by kernel_rfl
theorem laws_heldReadMarkS_l0_eq (E : Env) (x0 : U) (x1 : U) (x5 : U) : laws_heldReadMarkS_l0 E x0 x1 x5 =
 (U.lenOf false x0).bind fun n1 => (U.bin .lss x5 (.int .i64 (n1 : Int))).bind fun t2 => U.asBool t2
 (U.asInt x5 fun n3 => U.elemAt 2 x0 n3 fun e4 => U.fieldAt 0 0 e4 fun f5 => U.asVar false 1 f5 fun e6 => (U.bin .neq e6 x1).bind fun t7 => U.asBool t7
 (some (.int .i64 (-1)))
 ((U.bin .add x1 (.int .i64 1)).bind fun t8 => U.asInt x5 fun n9 => U.elemAt 2 x0 n9 fun e10 => U.fieldAt 1 1 e10 fun f11 => U.asVar false 1 f11 fun e12 => (U.bin .neq e12 t8).bind fun t13 => U.asBool t13
 (some (.int .i64 (-1)))
 ((U.bin .add t8 (.int .i64 1)).bind fun t14 => (U.bin .add x5 (.int .i64 1)).bind fun t15 => laws_heldReadMarkS_l0 E x0 t14 t15)))
 (some x1) :=
 (loop_eq E _ _ _ _).trans (by kernel_rfl)

/-- In the environment E: this function and those that it calls. -/
structure G_laws_heldReadMarkS (E : Env) : Prop where
  is : Is E 92 2 laws_heldReadMarkS_ac [(4, none)]
theorem laws_heldReadMarkS_E {E : Env} (h : G_laws_heldReadMarkS E) (a0 a1 : U) : E 92 [a0, a1] =
 laws_heldReadMarkS_l0 E a0 a1 (.int .i64 0) := (h.is _ rfl).trans ((runQ_V rfl).trans (laws_heldReadMarkS_eq E a0 a1))

end Go.Proofs.Ytfdcdbkblkehcaa.Am
namespace Go.Proofs.Ytfdcdbkblkehcaa.Am
open Go
set_option linter.unusedVariables false
set_option maxRecDepth 100000

/- loop.example/g01924/laws.heldWriteS -/
def laws_heldWriteS_b0 : AC :=
 (.seq (.seq (.region 0 [⟨some 6, .mv (.t 5), none⟩,
  ⟨some 7, .mv (.t 0), none⟩,
  ⟨some 8, .len false (.t 7), none⟩,
  ⟨some 9, .bin .lss (.t 6) (.t 8), none⟩])
 (.cond (.t 9) .skip (.exit 0)))
 (.seq (.block 1 (.seq (.seq (.region 0 [⟨some 12, .mv (.t 0), none⟩,
  ⟨some 13, .mv (.t 5), none⟩,
  ⟨some 14, .iaddr 2 (.t 12) (.t 13), none⟩,
  ⟨some 15, .faddr 0 0 (.t 14), none⟩,
  ⟨some 16, .load false 1 (.t 15), none⟩,
  ⟨some 17, .mv (.t 1), none⟩,
  ⟨some 18, .bin .neq (.t 16) (.t 17), none⟩])
 (.cond (.t 18) (.seq (.region 0 [⟨some 4, .mv (.c (.int .i64 (-1))), none⟩])
 .ret) .skip))
 (.seq (.region 0 [⟨some 19, .mv (.t 1), none⟩,
  ⟨some 20, .bin .add (.t 19) (.c (.int .i64 1)), none⟩,
  ⟨some 1, .mv (.t 20), none⟩])
 (.seq (.seq (.region 0 [⟨some 21, .mv (.t 0), none⟩,
  ⟨some 22, .mv (.t 5), none⟩,
  ⟨some 23, .iaddr 2 (.t 21) (.t 22), none⟩,
  ⟨some 24, .faddr 1 1 (.t 23), none⟩,
  ⟨some 25, .load false 1 (.t 24), none⟩,
  ⟨some 26, .mv (.t 1), none⟩,
  ⟨some 27, .bin .neq (.t 25) (.t 26), none⟩])
 (.cond (.t 27) (.seq (.region 0 [⟨some 4, .mv (.c (.int .i64 (-1))), none⟩])
 .ret) .skip))
 (.region 0 [⟨some 28, .mv (.t 1), none⟩,
  ⟨some 29, .bin .add (.t 28) (.c (.int .i64 1)), none⟩,
  ⟨some 1, .mv (.t 29), none⟩])))))
 (.region 0 [⟨some 10, .mv (.t 5), none⟩,
  ⟨some 11, .bin .add (.t 10) (.c (.int .i64 1)), none⟩,
  ⟨some 5, .mv (.t 11), none⟩])))
def laws_heldWriteS_r0 : AC :=
 (.seq (.region 0 [⟨some 30, .mv (.t 1), none⟩,
  ⟨some 4, .mv (.t 30), none⟩])
 .ret)
def laws_heldWriteS_ac : AC :=
 (.seq (.region 0 [⟨some 4, .mv (.c (.int .i64 0)), none⟩])
 (.seq (.seq (.region 0 [⟨some 5, .mv (.c (.int .i64 0)), none⟩])
 (.block 0 (.loop ⟨[0, 1, 5], [], []⟩ laws_heldWriteS_b0)))
 laws_heldWriteS_r0))
noncomputable def laws_heldWriteS_l0 (E : Env) (x0 : U) (x1 : U) (x5 : U) : Option U := loopK (roundOf E ⟨[0, 1, 5], [], []⟩ laws_heldWriteS_b0 (blockK 0 (seqK (fun s => exec E laws_heldWriteS_r0 s (finish [(4, none)])) (finish [(4, none)])))) ([.val x0, .val x1, .val x5], [])
theorem laws_heldWriteS_eq (E : Env) (a0 : U) (a1 : U) : run E laws_heldWriteS_ac [(4, none)] [a0, a1] =
 laws_heldWriteS_l0 E a0 a1 (.int .i64 0) := by kernel_rfl
theorem laws_heldWriteS_l0_eq (E : Env) (x0 : U) (x1 : U) (x5 : U) : laws_heldWriteS_l0 E x0 x1 x5 =
 (U.lenOf false x0).bind fun n1 => (U.bin .lss x5 (.int .i64 (n1 : Int))).bind fun t2 => U.asBool t2
 (U.asInt x5 fun n3 => U.elemAt 2 x0 n3 fun e4 => U.fieldAt 0 0 e4 fun f5 => U.asVar false 1 f5 fun e6 => (U.bin .neq e6 x1).bind fun t7 => U.asBool t7
 (some (.int .i64 (-1)))
 ((U.bin .add x1 (.int .i64 1)).bind fun t8 => U.asInt x5 fun n9 => U.elemAt 2 x0 n9 fun e10 => U.fieldAt 1 1 e10 fun f11 => U.asVar false 1 f11 fun e12 => (U.bin .neq e12 t8).bind fun t13 => U.asBool t13
 (some (.int .i64 (-1)))
 ((U.bin .add t8 (.int .i64 1)).bind fun t14 => (U.bin .add x5 (.int .i64 1)).bind fun t15 => laws_heldWriteS_l0 E x0 t14 t15)))
 (some x1) :=
 (loop_eq E _ _ _ _).trans (by kernel_rfl)

/-- In the environment E: this function and those that it calls. -/
structure G_laws_heldWriteS (E : Env) : Prop where
  is : Is E 235 2 laws_heldWriteS_ac [(4, none)]
theorem laws_heldWriteS_E {E : Env} (h : G_laws_heldWriteS E) (a0 a1 : U) : E 235 [a0, a1] =
 laws_heldWriteS_l0 E a0 a1 (.int .i64 0) := (h.is _ rfl).trans ((runQ_V rfl).trans (laws_heldWriteS_eq E a0 a1))

end Go.Proofs.Ytfdcdbkblkehcaa.Am
namespace Go.Proofs.Ytfdcdbkblkehcaa.Am
open Go
set_option linter.unusedVariables false
set_option maxRecDepth 100000

/- loop.example/g01924/laws.heldTransaction -/
def laws_heldTransaction_ac : AC :=
 (.seq (.region 0 [⟨some 2, .box false 2 (.t 0), none⟩,
  ⟨some 4, .mv (.c (.int .i64 0)), none⟩])
 (.seq (.region 0 [⟨some 5, .faddr 7 7 (.t 2), none⟩,
  ⟨some 6, .load false 1 (.t 5), none⟩,
  ⟨some 7, .mv (.t 1), none⟩,
  ⟨some 8, .call false 92 [(.t 6), (.t 7)], none⟩,
  ⟨some 1, .mv (.t 8), none⟩])
 (.seq (.seq (.region 0 [⟨some 9, .mv (.t 1), none⟩,
  ⟨some 10, .bin .lss (.t 9) (.c (.int .i64 0)), none⟩])
 (.cond (.t 10) (.seq (.region 0 [⟨some 4, .mv (.c (.int .i64 (-1))), none⟩])
 .ret) .skip))
 (.seq (.region 0 [⟨some 11, .faddr 8 8 (.t 2), none⟩,
  ⟨some 12, .load false 1 (.t 11), none⟩,
  ⟨some 13, .mv (.t 1), none⟩,
  ⟨some 14, .call false 235 [(.t 12), (.t 13)], none⟩,
  ⟨some 1, .mv (.t 14), none⟩])
 (.seq (.seq (.region 0 [⟨some 15, .mv (.t 1), none⟩,
  ⟨some 16, .bin .lss (.t 15) (.c (.int .i64 0)), none⟩])
 (.cond (.t 16) (.seq (.region 0 [⟨some 4, .mv (.c (.int .i64 (-1))), none⟩])
 .ret) .skip))
 (.seq (.region 0 [⟨some 17, .mv (.t 1), none⟩,
  ⟨some 4, .mv (.t 17), none⟩])
 .ret))))))

theorem laws_heldTransaction_eq (E : Env) (a0 : U) (a1 : U) : run E laws_heldTransaction_ac [(4, none)] [a0, a1] =
 U.noTup a0 fun x1 => U.asAgg x1 fun us2 => if 7 = sizes (us2.take 7) then (us2[7]?).bind fun e3 => U.asVar false 1 e3 fun e4 => (E 92 [e4, a1]).bind fun t5 => (U.bin .lss t5 (.int .i64 0)).bind fun t6 => U.asBool t6
 (some (.int .i64 (-1)))
 (U.asAgg x1 fun us7 => if 8 = sizes (us7.take 8) then (us7[8]?).bind fun e8 => U.asVar false 1 e8 fun e9 => (E 235 [e9, t5]).bind fun t10 => (U.bin .lss t10 (.int .i64 0)).bind fun t11 => U.asBool t11
 (some (.int .i64 (-1)))
 (some t10) else none) else none := by kernel_rfl

/-- In the environment E: this function and those that it calls. -/
structure G_laws_heldTransaction (E : Env) : Prop where
  is : Is E 205 2 laws_heldTransaction_ac [(4, none)]
  c_laws_heldReadMarkS : G_laws_heldReadMarkS E
  c_laws_heldWriteS : G_laws_heldWriteS E
theorem laws_heldTransaction_E {E : Env} (h : G_laws_heldTransaction E) (a0 a1 : U) : E 205 [a0, a1] =
 U.noTup a0 fun x1 => U.asAgg x1 fun us2 => if 7 = sizes (us2.take 7) then (us2[7]?).bind fun e3 => U.asVar false 1 e3 fun e4 => (E 92 [e4, a1]).bind fun t5 => (U.bin .lss t5 (.int .i64 0)).bind fun t6 => U.asBool t6
 (some (.int .i64 (-1)))
 (U.asAgg x1 fun us7 => if 8 = sizes (us7.take 8) then (us7[8]?).bind fun e8 => U.asVar false 1 e8 fun e9 => (E 235 [e9, t5]).bind fun t10 => (U.bin .lss t10 (.int .i64 0)).bind fun t11 => U.asBool t11
 (some (.int .i64 (-1)))
 (some t10) else none) else none := (h.is _ rfl).trans ((runQ_V rfl).trans (laws_heldTransaction_eq E a0 a1))

end Go.Proofs.Ytfdcdbkblkehcaa.Am
namespace Go.Proofs.Ytfdcdbkblkehcaa.Am
open Go
set_option linter.unusedVariables false
set_option maxRecDepth 100000

/- loop.example/g01924/laws.toReadMarkS!F -/
def laws_toReadMarkS_F_b0 : AC :=
 (.seq (.seq (.region 0 [⟨some 8, .mv (.t 4), none⟩,
  ⟨some 9, .mv (.t 0), none⟩,
  ⟨some 10, .len false (.t 9), none⟩,
  ⟨some 11, .bin .lss (.t 8) (.t 10), none⟩])
 (.cond (.t 11) .skip (.exit 0)))
 (.seq (.block 1 (.region 0 [⟨some 14, .mv (.t 3), none⟩,
  ⟨some 15, .mv (.t 4), none⟩,
  ⟨some 16, .mv (.t 0), none⟩,
  ⟨some 17, .mv (.t 4), none⟩,
  ⟨some 18, .iaddr 2 (.t 16) (.t 17), none⟩,
  ⟨some 19, .load true 2 (.t 18), none⟩,
  ⟨some 20, .call false 29 [(.t 19)], none⟩,
  ⟨some 21, .iaddr 2 (.t 14) (.t 15), none⟩,
  ⟨none, .store 2 (.t 21) (.t 20), none⟩]))
 (.region 0 [⟨some 12, .mv (.t 4), none⟩,
  ⟨some 13, .bin .add (.t 12) (.c (.int .i64 1)), none⟩,
  ⟨some 4, .mv (.t 13), none⟩])))
def laws_toReadMarkS_F_r0 : AC :=
 (.seq (.region 0 [⟨some 22, .mv (.t 3), none⟩,
  ⟨some 2, .mv (.t 22), none⟩])
 .ret)
def laws_toReadMarkS_F_ac : AC :=
 (.seq (.region 0 [⟨some 2, .mv (.c (.nsl 2)), none⟩])
 (.seq (.region 0 [⟨some 5, .mv (.t 0), none⟩,
  ⟨some 6, .len false (.t 5), none⟩,
  ⟨some 7, .mkslice 7 2 16 (.agg [(.int .i64 0), (.int .i64 0)]) (.t 6) (.t 6), none⟩,
  ⟨some 3, .mv (.t 7), none⟩])
 (.seq (.seq (.region 0 [⟨some 4, .mv (.c (.int .i64 0)), none⟩])
 (.block 0 (.loop ⟨[0, 4], [(3, 2, false)], []⟩ laws_toReadMarkS_F_b0)))
 laws_toReadMarkS_F_r0)))
noncomputable def laws_toReadMarkS_F_l0 (E : Env) (x0 : U) (x4 : U) (c3 : List U) : Option U := loopK (roundOf E ⟨[0, 4], [(3, 2, false)], []⟩ laws_toReadMarkS_F_b0 (blockK 0 (seqK (fun s => exec E laws_toReadMarkS_F_r0 s (finishF [(2, none)])) (finishF [(2, none)])))) ([.val x0, .val x4], [.vir (.asl 2 c3)])
theorem laws_toReadMarkS_F_eq (E : Env) (a0 : U) : exec E laws_toReadMarkS_F_ac (start [a0]) (finishF [(2, none)]) =
 (U.lenOf false a0).bind fun n1 => if 0 ≤ (n1 : Int) ∧ (n1 : Int) ≤ (n1 : Int) ∧ (n1 : Int) * 16 ≤ 140737488355328 ∧ ((.agg [(.int .i64 0), (.int .i64 0)]) : U).size = 2 then laws_toReadMarkS_F_l0 E a0 (.int .i64 0) (List.replicate ((n1 : Int) : Int).toNat (.agg [(.int .i64 0), (.int .i64 0)])) else none := by kernel_rfl
theorem laws_toReadMarkS_F_l0_eq (E : Env) (x0 : U) (x4 : U) (c3 : List U) : laws_toReadMarkS_F_l0 E x0 x4 c3 =
 (U.lenOf false x0).bind fun n2 => (U.bin .lss x4 (.int .i64 (n2 : Int))).bind fun t3 => U.asBool t3
 (U.asInt x4 fun n4 => U.elemAt 2 x0 n4 fun e5 => U.asVar true 2 e5 fun e6 => (E 29 [e6]).bind fun t7 => U.asInt x4 fun n8 => if 2 = 2 ∧ 0 ≤ n8 ∧ n8 < ((c3).length : Int) then if storable (.val t7) = true ∧ t7.size = 2 then (c3[(n8 : Int).toNat]?).bind fun e9 => if e9.size = 2 then (U.bin .add x4 (.int .i64 1)).bind fun t10 => laws_toReadMarkS_F_l0 E x0 t10 (c3.set (n8 : Int).toNat t7) else none else none else none)
 (if U.flat.flats c3 = true then some (.sl 2 c3) else none) :=
 (loop_eq E _ _ _ _).trans (by kernel_rfl)

/-- In the environment E: this function and those that it calls. -/
structure G_laws_toReadMarkS_F (E : Env) : Prop where
  is : Is E 100028 1 laws_toReadMarkS_F_ac [(2, none)]
  c_laws_toReadMark : G_laws_toReadMark E
theorem laws_toReadMarkS_F_E {E : Env} (h : G_laws_toReadMarkS_F E) (a0 : U) : E 100028 [a0] =
 (U.lenOf false a0).bind fun n1 => if 0 ≤ (n1 : Int) ∧ (n1 : Int) ≤ (n1 : Int) ∧ (n1 : Int) * 16 ≤ 140737488355328 ∧ ((.agg [(.int .i64 0), (.int .i64 0)]) : U).size = 2 then laws_toReadMarkS_F_l0 E a0 (.int .i64 0) (List.replicate ((n1 : Int) : Int).toNat (.agg [(.int .i64 0), (.int .i64 0)])) else none := (h.is _ rfl).trans ((runQ_F rfl).trans (laws_toReadMarkS_F_eq E a0))

end Go.Proofs.Ytfdcdbkblkehcaa.Am
namespace Go.Proofs.Ytfdcdbkblkehcaa.Am
open Go
set_option linter.unusedVariables false
set_option maxRecDepth 100000

/- loop.example/g01924/laws.toWriteS!F -/
def laws_toWriteS_F_b0 : AC :=
 (.seq (.seq (.region 0 [⟨some 8, .mv (.t 4), none⟩,
  ⟨some 9, .mv (.t 0), none⟩,
  ⟨some 10, .len false (.t 9), none⟩,
  ⟨some 11, .bin .lss (.t 8) (.t 10), none⟩])
 (.cond (.t 11) .skip (.exit 0)))
 (.seq (.block 1 (.region 0 [⟨some 14, .mv (.t 3), none⟩,
  ⟨some 15, .mv (.t 4), none⟩,
  ⟨some 16, .mv (.t 0), none⟩,
  ⟨some 17, .mv (.t 4), none⟩,
  ⟨some 18, .iaddr 2 (.t 16) (.t 17), none⟩,
  ⟨some 19, .load true 2 (.t 18), none⟩,
  ⟨some 20, .call false 30 [(.t 19)], none⟩,
  ⟨some 21, .iaddr 2 (.t 14) (.t 15), none⟩,
  ⟨none, .store 2 (.t 21) (.t 20), none⟩]))
 (.region 0 [⟨some 12, .mv (.t 4), none⟩,
  ⟨some 13, .bin .add (.t 12) (.c (.int .i64 1)), none⟩,
  ⟨some 4, .mv (.t 13), none⟩])))
def laws_toWriteS_F_r0 : AC :=
 (.seq (.region 0 [⟨some 22, .mv (.t 3), none⟩,
  ⟨some 2, .mv (.t 22), none⟩])
 .ret)
def laws_toWriteS_F_ac : AC :=
 (.seq (.region 0 [⟨some 2, .mv (.c (.nsl 2)), none⟩])
 (.seq (.region 0 [⟨some 5, .mv (.t 0), none⟩,
  ⟨some 6, .len false (.t 5), none⟩,
  ⟨some 7, .mkslice 7 2 16 (.agg [(.int .i64 0), (.int .i64 0)]) (.t 6) (.t 6), none⟩,
  ⟨some 3, .mv (.t 7), none⟩])
 (.seq (.seq (.region 0 [⟨some 4, .mv (.c (.int .i64 0)), none⟩])
 (.block 0 (.loop ⟨[0, 4], [(3, 2, false)], []⟩ laws_toWriteS_F_b0)))
 laws_toWriteS_F_r0)))
noncomputable def laws_toWriteS_F_l0 (E : Env) (x0 : U) (x4 : U) (c3 : List U) : Option U := loopK (roundOf E ⟨[0, 4], [(3, 2, false)], []⟩ laws_toWriteS_F_b0 (blockK 0 (seqK (fun s => exec E laws_toWriteS_F_r0 s (finishF [(2, none)])) (finishF [(2, none)])))) ([.val x0, .val x4], [.vir (.asl 2 c3)])
theorem laws_toWriteS_F_eq (E : Env) (a0 : U) : exec E laws_toWriteS_F_ac (start [a0]) (finishF [(2, none)]) =
 (U.lenOf false a0).bind fun n1 => if 0 ≤ (n1 : Int) ∧ (n1 : Int) ≤ (n1 : Int) ∧ (n1 : Int) * 16 ≤ 140737488355328 ∧ ((.agg [(.int .i64 0), (.int .i64 0)]) : U).size = 2 then laws_toWriteS_F_l0 E a0 (.int .i64 0) (List.replicate ((n1 : Int) : Int).toNat (.agg [(.int .i64 0), (.int .i64 0)])) else none := by kernel_rfl
theorem laws_toWriteS_F_l0_eq (E : Env) (x0 : U) (x4 : U) (c3 : List U) : laws_toWriteS_F_l0 E x0 x4 c3 =
 (U.lenOf false x0).bind fun n2 => (U.bin .lss x4 (.int .i64 (n2 : Int))).bind fun t3 => U.asBool t3
 (U.asInt x4 fun n4 => U.elemAt 2 x0 n4 fun e5 => U.asVar true 2 e5 fun e6 => (E 30 [e6]).bind fun t7 => U.asInt x4 fun n8 => if 2 = 2 ∧ 0 ≤ n8 ∧ n8 < ((c3).length : Int) then if storable (.val t7) = true ∧ t7.size = 2 then (c3[(n8 : Int).toNat]?).bind fun e9 => if e9.size = 2 then (U.bin .add x4 (.int .i64 1)).bind fun t10 => laws_toWriteS_F_l0 E x0 t10 (c3.set (n8 : Int).toNat t7) else none else none else none)
 (if U.flat.flats c3 = true then some (.sl 2 c3) else none) :=
 (loop_eq E _ _ _ _).trans (by kernel_rfl)

/-- In the environment E: this function and those that it calls. -/
structure G_laws_toWriteS_F (E : Env) : Prop where
  is : Is E 100027 1 laws_toWriteS_F_ac [(2, none)]
  c_laws_toWrite : G_laws_toWrite E
theorem laws_toWriteS_F_E {E : Env} (h : G_laws_toWriteS_F E) (a0 : U) : E 100027 [a0] =
 (U.lenOf false a0).bind fun n1 => if 0 ≤ (n1 : Int) ∧ (n1 : Int) ≤ (n1 : Int) ∧ (n1 : Int) * 16 ≤ 140737488355328 ∧ ((.agg [(.int .i64 0), (.int .i64 0)]) : U).size = 2 then laws_toWriteS_F_l0 E a0 (.int .i64 0) (List.replicate ((n1 : Int) : Int).toNat (.agg [(.int .i64 0), (.int .i64 0)])) else none := (h.is _ rfl).trans ((runQ_F rfl).trans (laws_toWriteS_F_eq E a0))

end Go.Proofs.Ytfdcdbkblkehcaa.Am
namespace Go.Proofs.Ytfdcdbkblkehcaa.Am
open Go
set_option linter.unusedVariables false
set_option maxRecDepth 100000

/- loop.example/g01924/laws.toTransaction!F -/
def laws_toTransaction_F_ac : AC :=
 (.seq (.region 0 [⟨some 1, .box false 1 (.t 0), none⟩,
  ⟨some 2, .alloc 2 (.agg [(.int .i64 0), (.int .i64 0), (.int .i64 0), (.int .i64 0), (.int .i64 0), (.int .i64 0), (.int .i64 0), (.nsl 2), (.nsl 2)]), none⟩])
 (.seq (.region 0 [⟨some 3, .alloc 3 (.agg [(.int .i64 0), (.int .i64 0), (.int .i64 0), (.int .i64 0), (.int .i64 0), (.int .i64 0), (.int .i64 0), (.nsl 2), (.nsl 2)]), none⟩])
 (.seq (.region 0 [⟨some 4, .faddr 0 0 (.t 1), none⟩,
  ⟨some 5, .load false 1 (.t 4), none⟩,
  ⟨some 6, .faddr 0 0 (.t 3), none⟩,
  ⟨none, .store 1 (.t 6) (.t 5), none⟩])
 (.seq (.region 0 [⟨some 7, .faddr 1 1 (.t 1), none⟩,
  ⟨some 8, .load false 1 (.t 7), none⟩,
  ⟨some 9, .faddr 1 1 (.t 3), none⟩,
  ⟨none, .store 1 (.t 9) (.t 8), none⟩])
 (.seq (.region 0 [⟨some 10, .faddr 2 2 (.t 1), none⟩,
  ⟨some 11, .load false 1 (.t 10), none⟩,
  ⟨some 12, .faddr 2 2 (.t 3), none⟩,
  ⟨none, .store 1 (.t 12) (.t 11), none⟩])
 (.seq (.region 0 [⟨some 13, .faddr 3 3 (.t 1), none⟩,
  ⟨some 14, .load false 1 (.t 13), none⟩,
  ⟨some 15, .faddr 3 3 (.t 3), none⟩,
  ⟨none, .store 1 (.t 15) (.t 14), none⟩])
 (.seq (.region 0 [⟨some 16, .faddr 4 4 (.t 1), none⟩,
  ⟨some 17, .load false 1 (.t 16), none⟩,
  ⟨some 18, .faddr 4 4 (.t 3), none⟩,
  ⟨none, .store 1 (.t 18) (.t 17), none⟩])
 (.seq (.region 0 [⟨some 19, .faddr 5 5 (.t 1), none⟩,
  ⟨some 20, .load false 1 (.t 19), none⟩,
  ⟨some 21, .faddr 5 5 (.t 3), none⟩,
  ⟨none, .store 1 (.t 21) (.t 20), none⟩])
 (.seq (.region 0 [⟨some 22, .faddr 6 6 (.t 1), none⟩,
  ⟨some 23, .load false 1 (.t 22), none⟩,
  ⟨some 24, .faddr 6 6 (.t 3), none⟩,
  ⟨none, .store 1 (.t 24) (.t 23), none⟩])
 (.seq (.region 0 [⟨some 25, .faddr 7 7 (.t 1), none⟩,
  ⟨some 26, .load false 1 (.t 25), none⟩,
  ⟨some 27, .callF 27 false [(.sl 2)] 28 [(.t 26)], none⟩,
  ⟨some 28, .faddr 7 7 (.t 3), none⟩,
  ⟨none, .storeM 3000 1 (.t 28) (.t 27), none⟩])
 (.seq (.region 0 [⟨some 29, .faddr 8 8 (.t 1), none⟩,
  ⟨some 30, .load false 1 (.t 29), none⟩,
  ⟨some 31, .callF 31 false [(.sl 2)] 27 [(.t 30)], none⟩,
  ⟨some 32, .faddr 8 8 (.t 3), none⟩,
  ⟨none, .storeM 3002 1 (.t 32) (.t 31), none⟩])
 (.seq (.region 0 [⟨some 33, .loadO (.agg [.int, .int, .int, .int, .int, .int, .int, (.sl 2), (.sl 2)]) (.t 3), none⟩,
  ⟨none, .storeM 3001 9 (.t 2) (.t 33), none⟩])
 .ret))))))))))))

theorem laws_toTransaction_F_eq (E : Env) (a0 : U) : exec E laws_toTransaction_F_ac (start [a0]) (finishF [(2, some (true, 9))]) =
 U.noTup a0 fun x1 => U.asAgg x1 fun us2 => if 0 = sizes (us2.take 0) then (us2[0]?).bind fun e3 => U.asVar false 1 e3 fun e4 => if storable (.val e4) = true ∧ e4.size = 1 then U.asAgg x1 fun us5 => if 1 = sizes (us5.take 1) then (us5[1]?).bind fun e6 => U.asVar false 1 e6 fun e7 => if storable (.val e7) = true ∧ e7.size = 1 then if 1 = sizes [e4] then U.asAgg x1 fun us8 => if 2 = sizes (us8.take 2) then (us8[2]?).bind fun e9 => U.asVar false 1 e9 fun e10 => if storable (.val e10) = true ∧ e10.size = 1 then if 2 = sizes [e4, e7] then U.asAgg x1 fun us11 => if 3 = sizes (us11.take 3) then (us11[3]?).bind fun e12 => U.asVar false 1 e12 fun e13 => if storable (.val e13) = true ∧ e13.size = 1 then if 3 = sizes [e4, e7, e10] then U.asAgg x1 fun us14 => if 4 = sizes (us14.take 4) then (us14[4]?).bind fun e15 => U.asVar false 1 e15 fun e16 => if storable (.val e16) = true ∧ e16.size = 1 then if 4 = sizes [e4, e7, e10, e13] then U.asAgg x1 fun us17 => if 5 = sizes (us17.take 5) then (us17[5]?).bind fun e18 => U.asVar false 1 e18 fun e19 => if storable (.val e19) = true ∧ e19.size = 1 then if 5 = sizes [e4, e7, e10, e13, e16] then U.asAgg x1 fun us20 => if 6 = sizes (us20.take 6) then (us20[6]?).bind fun e21 => U.asVar false 1 e21 fun e22 => if storable (.val e22) = true ∧ e22.size = 1 then if 6 = sizes [e4, e7, e10, e13, e16, e19] then U.asAgg x1 fun us23 => if 7 = sizes (us23.take 7) then (us23[7]?).bind fun e24 => U.asVar false 1 e24 fun e25 => (E 100028 [e25]).bind fun t26 => U.noTup t26 fun x27 => U.asSlK 2 x27 fun us28 => if 7 = sizes [e4, e7, e10, e13, e16, e19, e22] then if 7 = sizes [e4, e7, e10, e13, e16, e19, e22] then if 7 = dsizes [.val e4, .val e7, .val e10, .val e13, .val e16, .val e19, .val e22] then U.asAgg x1 fun us29 => if 8 = sizes (us29.take 8) then (us29[8]?).bind fun e30 => U.asVar false 1 e30 fun e31 => (E 100027 [e31]).bind fun t32 => U.noTup t32 fun x33 => U.asSlK 2 x33 fun us34 => if 8 = dsizes [.val e4, .val e7, .val e10, .val e13, .val e16, .val e19, .val e22, .own (.sl 2 us28)] then if 8 = dsizes [.val e4, .val e7, .val e10, .val e13, .val e16, .val e19, .val e22, .own (.sl 2 us28)] then if 8 = dsizes [.val e4, .val e7, .val e10, .val e13, .val e16, .val e19, .val e22, .own (.sl 2 us28)] then U.asInt e4 fun n35 => U.asInt e7 fun n36 => U.asInt e10 fun n37 => U.asInt e13 fun n38 => U.asInt e16 fun n39 => U.asInt e19 fun n40 => U.asInt e22 fun n41 => if 7 = dsizes [.val e4, .val e7, .val e10, .val e13, .val e16, .val e19, .val e22] then if 7 = dsizes [.val e4, .val e7, .val e10, .val e13, .val e16, .val e19, .val e22] then if 8 = dsizes [.val e4, .val e7, .val e10, .val e13, .val e16, .val e19, .val e22, .junk 1] then if 8 = dsizes [.val e4, .val e7, .val e10, .val e13, .val e16, .val e19, .val e22, .junk 1] then some (.agg [(.int .i64 n35), (.int .i64 n36), (.int .i64 n37), (.int .i64 n38), (.int .i64 n39), (.int .i64 n40), (.int .i64 n41), (.sl 2 us28), (.sl 2 us34)]) else none else none else none else none else none else none else none else none else none else none else none else none else none else none else none else none else none else none else none else none else none else none else none else none else none else none else none else none else none else none else none else none := by kernel_rfl

/-- In the environment E: this function and those that it calls. -/
structure G_laws_toTransaction_F (E : Env) : Prop where
  is : Is E 100145 1 laws_toTransaction_F_ac [(2, some (true, 9))]
  c_laws_toReadMarkS_F : G_laws_toReadMarkS_F E
  c_laws_toWriteS_F : G_laws_toWriteS_F E
theorem laws_toTransaction_F_E {E : Env} (h : G_laws_toTransaction_F E) (a0 : U) : E 100145 [a0] =
 U.noTup a0 fun x1 => U.asAgg x1 fun us2 => if 0 = sizes (us2.take 0) then (us2[0]?).bind fun e3 => U.asVar false 1 e3 fun e4 => if storable (.val e4) = true ∧ e4.size = 1 then U.asAgg x1 fun us5 => if 1 = sizes (us5.take 1) then (us5[1]?).bind fun e6 => U.asVar false 1 e6 fun e7 => if storable (.val e7) = true ∧ e7.size = 1 then if 1 = sizes [e4] then U.asAgg x1 fun us8 => if 2 = sizes (us8.take 2) then (us8[2]?).bind fun e9 => U.asVar false 1 e9 fun e10 => if storable (.val e10) = true ∧ e10.size = 1 then if 2 = sizes [e4, e7] then U.asAgg x1 fun us11 => if 3 = sizes (us11.take 3) then (us11[3]?).bind fun e12 => U.asVar false 1 e12 fun e13 => if storable (.val e13) = true ∧ e13.size = 1 then if 3 = sizes [e4, e7, e10] then U.asAgg x1 fun us14 => if 4 = sizes (us14.take 4) then (us14[4]?).bind fun e15 => U.asVar false 1 e15 fun e16 => if storable (.val e16) = true ∧ e16.size = 1 then if 4 = sizes [e4, e7, e10, e13] then U.asAgg x1 fun us17 => if 5 = sizes (us17.take 5) then (us17[5]?).bind fun e18 => U.asVar false 1 e18 fun e19 => if storable (.val e19) = true ∧ e19.size = 1 then if 5 = sizes [e4, e7, e10, e13, e16] then U.asAgg x1 fun us20 => if 6 = sizes (us20.take 6) then (us20[6]?).bind fun e21 => U.asVar false 1 e21 fun e22 => if storable (.val e22) = true ∧ e22.size = 1 then if 6 = sizes [e4, e7, e10, e13, e16, e19] then U.asAgg x1 fun us23 => if 7 = sizes (us23.take 7) then (us23[7]?).bind fun e24 => U.asVar false 1 e24 fun e25 => (E 100028 [e25]).bind fun t26 => U.noTup t26 fun x27 => U.asSlK 2 x27 fun us28 => if 7 = sizes [e4, e7, e10, e13, e16, e19, e22] then if 7 = sizes [e4, e7, e10, e13, e16, e19, e22] then if 7 = dsizes [.val e4, .val e7, .val e10, .val e13, .val e16, .val e19, .val e22] then U.asAgg x1 fun us29 => if 8 = sizes (us29.take 8) then (us29[8]?).bind fun e30 => U.asVar false 1 e30 fun e31 => (E 100027 [e31]).bind fun t32 => U.noTup t32 fun x33 => U.asSlK 2 x33 fun us34 => if 8 = dsizes [.val e4, .val e7, .val e10, .val e13, .val e16, .val e19, .val e22, .own (.sl 2 us28)] then if 8 = dsizes [.val e4, .val e7, .val e10, .val e13, .val e16, .val e19, .val e22, .own (.sl 2 us28)] then if 8 = dsizes [.val e4, .val e7, .val e10, .val e13, .val e16, .val e19, .val e22, .own (.sl 2 us28)] then U.asInt e4 fun n35 => U.asInt e7 fun n36 => U.asInt e10 fun n37 => U.asInt e13 fun n38 => U.asInt e16 fun n39 => U.asInt e19 fun n40 => U.asInt e22 fun n41 => if 7 = dsizes [.val e4, .val e7, .val e10, .val e13, .val e16, .val e19, .val e22] then if 7 = dsizes [.val e4, .val e7, .val e10, .val e13, .val e16, .val e19, .val e22] then if 8 = dsizes [.val e4, .val e7, .val e10, .val e13, .val e16, .val e19, .val e22, .junk 1] then if 8 = dsizes [.val e4, .val e7, .val e10, .val e13, .val e16, .val e19, .val e22, .junk 1] then some (.agg [(.int .i64 n35), (.int .i64 n36), (.int .i64 n37), (.int .i64 n38), (.int .i64 n39), (.int .i64 n40), (.int .i64 n41), (.sl 2 us28), (.sl 2 us34)]) else none else none else none else none else none else none else none else none else none else none else none else none else none else none else none else none else none else none else none else none else none else none else none else none else none else none else none else none else none else none else none else none := (h.is _ rfl).trans ((runQ_F rfl).trans (laws_toTransaction_F_eq E a0))

end Go.Proofs.Ytfdcdbkblkehcaa.Am
namespace Go.Proofs.Ytfdcdbkblkehcaa.Am
open Go
set_option linter.unusedVariables false
set_option maxRecDepth 100000

/- (loop.example/g01924/impl.Transaction).copied!F -/
def impl_Transaction_copied_F_ac : AC :=
 (.seq (.region 0 [⟨some 1, .boxN 9 1 (.t 0), none⟩,
  ⟨some 2, .alloc 2 (.agg [(.int .i64 0), (.int .i64 0), (.int .i64 0), (.int .i64 0), (.int .i64 0), (.int .i64 0), (.int .i64 0), (.nsl 2), (.nsl 2)]), none⟩])
 (.seq (.regN 7 [5, 8] [(0, 5), (1, 5), (3, 5), (4, 5), (0, 8), (1, 8), (2, 8), (3, 8), (4, 8), (6, 8)] [(.t 3), (.t 6)] [⟨some 3, .faddr 7 7 (.t 1), none⟩,
  ⟨some 4, .load false 1 (.t 3), none⟩,
  ⟨some 5, .callF 5 false [(.sl 2)] 224 [(.t 4)], none⟩,
  ⟨some 6, .faddr 8 8 (.t 1), none⟩,
  ⟨some 7, .load false 1 (.t 6), none⟩,
  ⟨some 8, .callF 8 false [(.sl 2)] 225 [(.t 7)], none⟩,
  ⟨some 9, .faddr 7 7 (.t 1), none⟩,
  ⟨none, .storeM 3000 1 (.t 9) (.t 5), none⟩,
  ⟨some 10, .faddr 8 8 (.t 1), none⟩,
  ⟨none, .storeM 3002 1 (.t 10) (.t 8), none⟩])
 (.seq (.region 0 [⟨some 11, .loadO (.agg [.int, .int, .int, .int, .int, .int, .int, (.sl 2), (.sl 2)]) (.t 1), none⟩,
  ⟨none, .storeM 3001 9 (.t 2) (.t 11), none⟩])
 .ret)))

theorem impl_Transaction_copied_F_eq (E : Env) (a0 : U) : exec E impl_Transaction_copied_F_ac (start [a0]) (finishF [(2, some (true, 9))]) =
 U.asAgg a0 fun us1 => (match us1 with
 | u2 :: us3 => ((match us3 with
 | u4 :: us5 => ((match us5 with
 | u6 :: us7 => ((match us7 with
 | u8 :: us9 => ((match us9 with
 | u10 :: us11 => ((match us11 with
 | u12 :: us13 => ((match us13 with
 | u14 :: us15 => ((match us15 with
 | u16 :: us17 => ((match us17 with
 | u18 :: us19 => ((match us19 with
 | [] => (if 7 = sizes [u2, u4, u6, u8, u10, u12, u14] then U.asVar false 1 u16 fun e20 => (E 100224 [e20]).bind fun t21 => U.noTup t21 fun x22 => U.asSlK 2 x22 fun us23 => if 8 = sizes [u2, u4, u6, u8, u10, u12, u14, u16] then U.asVar false 1 u18 fun e24 => (E 100225 [e24]).bind fun t25 => U.noTup t25 fun x26 => U.asSlK 2 x26 fun us27 => if 7 = sizes [u2, u4, u6, u8, u10, u12, u14] then if 7 = sizes [u2, u4, u6, u8, u10, u12, u14] then if u16.size = u16.size then if 7 = dsizes [.val u2, .val u4, .val u6, .val u8, .val u10, .val u12, .val u14] then if u16.size = 1 then if 8 = dsizes [.val u2, .val u4, .val u6, .val u8, .val u10, .val u12, .val u14, .own (.sl 2 us23)] then if 8 = dsizes [.val u2, .val u4, .val u6, .val u8, .val u10, .val u12, .val u14, .own (.sl 2 us23)] then if u18.size = u18.size then if 8 = dsizes [.val u2, .val u4, .val u6, .val u8, .val u10, .val u12, .val u14, .own (.sl 2 us23)] then if u18.size = 1 then U.asInt u2 fun n28 => U.asInt u4 fun n29 => U.asInt u6 fun n30 => U.asInt u8 fun n31 => U.asInt u10 fun n32 => U.asInt u12 fun n33 => U.asInt u14 fun n34 => if 7 = dsizes [.val u2, .val u4, .val u6, .val u8, .val u10, .val u12, .val u14] then if 7 = dsizes [.val u2, .val u4, .val u6, .val u8, .val u10, .val u12, .val u14] then if 8 = dsizes [.val u2, .val u4, .val u6, .val u8, .val u10, .val u12, .val u14, .junk 1] then if 8 = dsizes [.val u2, .val u4, .val u6, .val u8, .val u10, .val u12, .val u14, .junk 1] then some (.agg [(.int .i64 n28), (.int .i64 n29), (.int .i64 n30), (.int .i64 n31), (.int .i64 n32), (.int .i64 n33), (.int .i64 n34), (.sl 2 us23), (.sl 2 us27)]) else none else none else none else none else none else none else none else none else none else none else none else none else none else none else none else none)
 | _ => none))
 | [] => none))
 | [] => none))
 | [] => none))
 | [] => none))
 | [] => none))
 | [] => none))
 | [] => none))
 | [] => none))
 | [] => none) := by kernel_rfl

/-- In the environment E: this function and those that it calls. -/
structure G_impl_Transaction_copied_F (E : Env) : Prop where
  is : Is E 100222 1 impl_Transaction_copied_F_ac [(2, some (true, 9))]
  c_slices_Clone_g224 : IsClone E 224 2 16
  c_slices_Clone_g225 : IsClone E 225 2 16
theorem impl_Transaction_copied_F_E {E : Env} (h : G_impl_Transaction_copied_F E) (a0 : U) : E 100222 [a0] =
 U.asAgg a0 fun us1 => (match us1 with
 | u2 :: us3 => ((match us3 with
 | u4 :: us5 => ((match us5 with
 | u6 :: us7 => ((match us7 with
 | u8 :: us9 => ((match us9 with
 | u10 :: us11 => ((match us11 with
 | u12 :: us13 => ((match us13 with
 | u14 :: us15 => ((match us15 with
 | u16 :: us17 => ((match us17 with
 | u18 :: us19 => ((match us19 with
 | [] => (if 7 = sizes [u2, u4, u6, u8, u10, u12, u14] then U.asVar false 1 u16 fun e20 => (E 100224 [e20]).bind fun t21 => U.noTup t21 fun x22 => U.asSlK 2 x22 fun us23 => if 8 = sizes [u2, u4, u6, u8, u10, u12, u14, u16] then U.asVar false 1 u18 fun e24 => (E 100225 [e24]).bind fun t25 => U.noTup t25 fun x26 => U.asSlK 2 x26 fun us27 => if 7 = sizes [u2, u4, u6, u8, u10, u12, u14] then if 7 = sizes [u2, u4, u6, u8, u10, u12, u14] then if u16.size = u16.size then if 7 = dsizes [.val u2, .val u4, .val u6, .val u8, .val u10, .val u12, .val u14] then if u16.size = 1 then if 8 = dsizes [.val u2, .val u4, .val u6, .val u8, .val u10, .val u12, .val u14, .own (.sl 2 us23)] then if 8 = dsizes [.val u2, .val u4, .val u6, .val u8, .val u10, .val u12, .val u14, .own (.sl 2 us23)] then if u18.size = u18.size then if 8 = dsizes [.val u2, .val u4, .val u6, .val u8, .val u10, .val u12, .val u14, .own (.sl 2 us23)] then if u18.size = 1 then U.asInt u2 fun n28 => U.asInt u4 fun n29 => U.asInt u6 fun n30 => U.asInt u8 fun n31 => U.asInt u10 fun n32 => U.asInt u12 fun n33 => U.asInt u14 fun n34 => if 7 = dsizes [.val u2, .val u4, .val u6, .val u8, .val u10, .val u12, .val u14] then if 7 = dsizes [.val u2, .val u4, .val u6, .val u8, .val u10, .val u12, .val u14] then if 8 = dsizes [.val u2, .val u4, .val u6, .val u8, .val u10, .val u12, .val u14, .junk 1] then if 8 = dsizes [.val u2, .val u4, .val u6, .val u8, .val u10, .val u12, .val u14, .junk 1] then some (.agg [(.int .i64 n28), (.int .i64 n29), (.int .i64 n30), (.int .i64 n31), (.int .i64 n32), (.int .i64 n33), (.int .i64 n34), (.sl 2 us23), (.sl 2 us27)]) else none else none else none else none else none else none else none else none else none else none else none else none else none else none else none else none)
 | _ => none))
 | [] => none))
 | [] => none))
 | [] => none))
 | [] => none))
 | [] => none))
 | [] => none))
 | [] => none))
 | [] => none))
 | [] => none) := (h.is _ rfl).trans ((runQ_F rfl).trans (impl_Transaction_copied_F_eq E a0))

end Go.Proofs.Ytfdcdbkblkehcaa.Am
namespace Go.Proofs.Ytfdcdbkblkehcaa.Am
open Go
set_option linter.unusedVariables false
set_option maxRecDepth 100000

/- loop.example/g01924/impl.AbortTransaction!F -/
def impl_AbortTransaction_F_ac : AC :=
 (.seq (.region 0 [⟨some 1, .box false 1 (.t 0), none⟩,
  ⟨some 2, .alloc 2 (.agg [(.int .i64 0), (.int .i64 0), (.int .i64 0), (.int .i64 0), (.int .i64 0), (.int .i64 0), (.int .i64 0), (.nsl 2), (.nsl 2)]), none⟩,
  ⟨some 3, .mv (.c (.bool false)), none⟩])
 (.seq (.region 0 [⟨some 5, .load true 9 (.t 1), none⟩,
  ⟨some 6, .callF 6 false [(.agg [.int, .int, .int, .int, .int, .int, .int, (.sl 2), (.sl 2)])] 222 [(.t 5)], none⟩,
  ⟨some 4, .alloc 4 (.agg [(.int .i64 0), (.int .i64 0), (.int .i64 0), (.int .i64 0), (.int .i64 0), (.int .i64 0), (.int .i64 0), (.nsl 2), (.nsl 2)]), none⟩,
  ⟨none, .storeM 3000 9 (.t 4) (.t 6), none⟩])
 (.seq (.seq (.region 0 [⟨some 7, .load true 9 (.t 1), none⟩,
  ⟨some 8, .call false 301 [(.t 7)], none⟩,
  ⟨some 9, .un .not (.t 8), none⟩])
 (.cond (.t 9) (.seq (.region 0 [⟨some 10, .loadO (.agg [.int, .int, .int, .int, .int, .int, .int, (.sl 2), (.sl 2)]) (.t 4), none⟩,
  ⟨none, .storeM 3001 9 (.t 2) (.t 10), none⟩,
  ⟨some 3, .mv (.c (.bool false)), none⟩])
 .ret) .skip))
 (.seq (.region 0 [⟨some 11, .faddr 2 2 (.t 4), none⟩,
  ⟨none, .store 1 (.t 11) (.c (.int .i64 3)), none⟩])
 (.seq (.region 0 [⟨some 12, .loadO (.agg [.int, .int, .int, .int, .int, .int, .int, (.sl 2), (.sl 2)]) (.t 4), none⟩,
  ⟨none, .storeM 3002 9 (.t 2) (.t 12), none⟩,
  ⟨some 3, .mv (.c (.bool true)), none⟩])
 .ret)))))

theorem impl_AbortTransaction_F_eq (E : Env) (a0 : U) : exec E impl_AbortTransaction_F_ac (start [a0]) (finishF [(2, some (true, 9)), (3, none)]) =
 U.noTup a0 fun x1 => U.asVar true 9 x1 fun e2 => (E 100222 [e2]).bind fun t3 => U.noTup t3 fun x4 => U.asAgg x4 fun us5 => (match us5 with
 | u6 :: us7 => (U.asInt u6 fun n8 => (match us7 with
 | u9 :: us10 => (U.asInt u9 fun n11 => (match us10 with
 | u12 :: us13 => (U.asInt u12 fun n14 => (match us13 with
 | u15 :: us16 => (U.asInt u15 fun n17 => (match us16 with
 | u18 :: us19 => (U.asInt u18 fun n20 => (match us19 with
 | u21 :: us22 => (U.asInt u21 fun n23 => (match us22 with
 | u24 :: us25 => (U.asInt u24 fun n26 => (match us25 with
 | u27 :: us28 => (U.asSlK 2 u27 fun us29 => (match us28 with
 | u30 :: us31 => (U.asSlK 2 u30 fun us32 => (match us31 with
 | [] => (U.asVar true 9 x1 fun e33 => (E 301 [e33]).bind fun t34 => (U.un .not t34).bind fun t35 => U.asBool t35
 (some (.tup [(.agg [(.int .i64 n8), (.int .i64 n11), (.int .i64 n14), (.int .i64 n17), (.int .i64 n20), (.int .i64 n23), (.int .i64 n26), (.sl 2 us29), (.sl 2 us32)]), (.bool false)]))
 (some (.tup [(.agg [(.int .i64 n8), (.int .i64 n11), (.int .i64 3), (.int .i64 n17), (.int .i64 n20), (.int .i64 n23), (.int .i64 n26), (.sl 2 us29), (.sl 2 us32)]), (.bool true)])))
 | _ => none))
 | [] => none))
 | [] => none))
 | [] => none))
 | [] => none))
 | [] => none))
 | [] => none))
 | [] => none))
 | [] => none))
 | [] => none) := by kernel_rfl

/-- In the environment E: this function and those that it calls. -/
structure G_impl_AbortTransaction_F (E : Env) : Prop where
  is : Is E 100328 1 impl_AbortTransaction_F_ac [(2, some (true, 9)), (3, none)]
  c_impl_Transaction_isActive : G_impl_Transaction_isActive E
  c_impl_Transaction_copied_F : G_impl_Transaction_copied_F E
theorem impl_AbortTransaction_F_E {E : Env} (h : G_impl_AbortTransaction_F E) (a0 : U) : E 100328 [a0] =
 U.noTup a0 fun x1 => U.asVar true 9 x1 fun e2 => (E 100222 [e2]).bind fun t3 => U.noTup t3 fun x4 => U.asAgg x4 fun us5 => (match us5 with
 | u6 :: us7 => (U.asInt u6 fun n8 => (match us7 with
 | u9 :: us10 => (U.asInt u9 fun n11 => (match us10 with
 | u12 :: us13 => (U.asInt u12 fun n14 => (match us13 with
 | u15 :: us16 => (U.asInt u15 fun n17 => (match us16 with
 | u18 :: us19 => (U.asInt u18 fun n20 => (match us19 with
 | u21 :: us22 => (U.asInt u21 fun n23 => (match us22 with
 | u24 :: us25 => (U.asInt u24 fun n26 => (match us25 with
 | u27 :: us28 => (U.asSlK 2 u27 fun us29 => (match us28 with
 | u30 :: us31 => (U.asSlK 2 u30 fun us32 => (match us31 with
 | [] => (U.asVar true 9 x1 fun e33 => (E 301 [e33]).bind fun t34 => (U.un .not t34).bind fun t35 => U.asBool t35
 (some (.tup [(.agg [(.int .i64 n8), (.int .i64 n11), (.int .i64 n14), (.int .i64 n17), (.int .i64 n20), (.int .i64 n23), (.int .i64 n26), (.sl 2 us29), (.sl 2 us32)]), (.bool false)]))
 (some (.tup [(.agg [(.int .i64 n8), (.int .i64 n11), (.int .i64 3), (.int .i64 n17), (.int .i64 n20), (.int .i64 n23), (.int .i64 n26), (.sl 2 us29), (.sl 2 us32)]), (.bool true)])))
 | _ => none))
 | [] => none))
 | [] => none))
 | [] => none))
 | [] => none))
 | [] => none))
 | [] => none))
 | [] => none))
 | [] => none))
 | [] => none) := (h.is _ rfl).trans ((runQ_F rfl).trans (impl_AbortTransaction_F_eq E a0))

end Go.Proofs.Ytfdcdbkblkehcaa.Am
namespace Go.Proofs.Ytfdcdbkblkehcaa.Am
open Go
set_option linter.unusedVariables false
set_option maxRecDepth 100000

/- loop.example/g01924/laws.markReadMarkS!M -/
def laws_markReadMarkS_M_b0 : AC :=
 (.seq (.seq (.region 0 [⟨some 6, .mv (.t 5), none⟩,
  ⟨some 7, .mv (.t 0), none⟩,
  ⟨some 8, .len false (.t 7), none⟩,
  ⟨some 9, .bin .lss (.t 6) (.t 8), none⟩])
 (.cond (.t 9) .skip (.exit 0)))
 (.seq (.block 1 (.seq (.region 0 [⟨some 12, .mv (.t 0), none⟩,
  ⟨some 13, .mv (.t 5), none⟩,
  ⟨some 14, .mv (.t 1), none⟩,
  ⟨some 15, .iaddr 2 (.t 12) (.t 13), none⟩,
  ⟨some 16, .faddr 0 0 (.t 15), none⟩,
  ⟨none, .store 1 (.t 16) (.t 14), none⟩])
 (.seq (.region 0 [⟨some 17, .mv (.t 1), none⟩,
  ⟨some 18, .bin .add (.t 17) (.c (.int .i64 1)), none⟩,
  ⟨some 1, .mv (.t 18), none⟩])
 (.seq (.region 0 [⟨some 19, .mv (.t 0), none⟩,
  ⟨some 20, .mv (.t 5), none⟩,
  ⟨some 21, .mv (.t 1), none⟩,
  ⟨some 22, .iaddr 2 (.t 19) (.t 20), none⟩,
  ⟨some 23, .faddr 1 1 (.t 22), none⟩,
  ⟨none, .store 1 (.t 23) (.t 21), none⟩])
 (.region 0 [⟨some 24, .mv (.t 1), none⟩,
  ⟨some 25, .bin .add (.t 24) (.c (.int .i64 1)), none⟩,
  ⟨some 1, .mv (.t 25), none⟩])))))
 (.region 0 [⟨some 10, .mv (.t 5), none⟩,
  ⟨some 11, .bin .add (.t 10) (.c (.int .i64 1)), none⟩,
  ⟨some 5, .mv (.t 11), none⟩])))
def laws_markReadMarkS_M_r0 : AC :=
 (.seq (.region 0 [⟨some 26, .mv (.t 1), none⟩,
  ⟨some 4, .mv (.t 26), none⟩])
 .ret)
def laws_markReadMarkS_M_ac : AC :=
 (.seq (.region 0 [⟨some 4, .mv (.c (.int .i64 0)), none⟩])
 (.seq (.seq (.region 0 [⟨some 5, .mv (.c (.int .i64 0)), none⟩])
 (.block 0 (.loop ⟨[0, 1, 5], [], [(5000, true)]⟩ laws_markReadMarkS_M_b0)))
 laws_markReadMarkS_M_r0))
noncomputable def laws_markReadMarkS_M_l0 (E : Env) (x1 : U) (x5 : U) (b5000 : List U) : Option U := loopK (roundOf E ⟨[0, 1, 5], [], [(5000, true)]⟩ laws_markReadMarkS_M_b0 (blockK 0 (seqK (fun s => exec E laws_markReadMarkS_M_r0 s (finishM 2 [(4, none)])) (finishM 2 [(4, none)])))) ([.ref 5000 [] 2 none, .val x1, .val x5], [.vir (.own (.sl 2 b5000))])
theorem laws_markReadMarkS_M_eq (E : Env) (xs0 : List U) (a1 : U) : exec E laws_markReadMarkS_M_ac (startM 2 xs0 [a1]) (finishM 2 [(4, none)]) =
 laws_markReadMarkS_M_l0 E a1 (.int .i64 0) xs0 := by kernel_rfl
theorem laws_markReadMarkS_M_l0_eq (E : Env) (x1 : U) (x5 : U) (b5000 : List U) : laws_markReadMarkS_M_l0 E x1 x5 b5000 =
 (U.bin .lss x5 (.int .i64 (b5000.length : Int))).bind fun t1 => U.asBool t1
 (U.asInt x5 fun n2 => if 2 = 2 ∧ 0 ≤ n2 ∧ n2 < (b5000.length : Int) then if storable (.val x1) = true ∧ x1.size = 1 then (b5000[(n2 : Int).toNat]?).bind fun e3 => U.asAgg e3 fun us4 => if 0 = sizes (us4.take 0) then (us4[0]?).bind fun e5 => if e5.size = 1 then if (x1 : U).flat = true then (U.bin .add x1 (.int .i64 1)).bind fun t6 => U.asInt x5 fun n7 => if 2 = 2 ∧ 0 ≤ n7 ∧ n7 < (((b5000.set (n2 : Int).toNat (.agg (us4.set 0 x1)))).length : Int) then if storable (.val t6) = true ∧ t6.size = 1 then ((b5000.set (n2 : Int).toNat (.agg (us4.set 0 x1)))[(n7 : Int).toNat]?).bind fun e8 => U.asAgg e8 fun us9 => if 1 = sizes (us9.take 1) then (us9[1]?).bind fun e10 => if e10.size = 1 then if (t6 : U).flat = true then (U.bin .add t6 (.int .i64 1)).bind fun t11 => (U.bin .add x5 (.int .i64 1)).bind fun t12 => laws_markReadMarkS_M_l0 E t11 t12 ((b5000.set (n2 : Int).toNat (.agg (us4.set 0 x1))).set (n7 : Int).toNat (.agg (us9.set 1 t6))) else none else none else none else none else none else none else none else none else none else none)
 (if (x1 : U).flat = true then some (.tup [x1, .sl 2 b5000]) else none) :=
 (loop_eq E _ _ _ _).trans (by kernel_rfl)

/-- In the environment E: this function and those that it calls. -/
structure G_laws_markReadMarkS_M (E : Env) : Prop where
  is : Is E 200095 2 laws_markReadMarkS_M_ac [(4, none)]
theorem laws_markReadMarkS_M_E {E : Env} (h : G_laws_markReadMarkS_M E) (xs0 : List U) (a1 : U) : E 200095 (.agg [.tup [.sl 2 xs0]] :: [a1]) =
 laws_markReadMarkS_M_l0 E a1 (.int .i64 0) xs0 := (h.is _ rfl).trans ((runQ_M rfl).trans (laws_markReadMarkS_M_eq E xs0 a1))

end Go.Proofs.Ytfdcdbkblkehcaa.Am
namespace Go.Proofs.Ytfdcdbkblkehcaa.Am
open Go
set_option linter.unusedVariables false
set_option maxRecDepth 100000

/- loop.example/g01924/laws.markWriteS!M -/
def laws_markWriteS_M_b0 : AC :=
 (.seq (.seq (.region 0 [⟨some 6, .mv (.t 5), none⟩,
  ⟨some 7, .mv (.t 0), none⟩,
  ⟨some 8, .len false (.t 7), none⟩,
  ⟨some 9, .bin .lss (.t 6) (.t 8), none⟩])
 (.cond (.t 9) .skip (.exit 0)))
 (.seq (.block 1 (.seq (.region 0 [⟨some 12, .mv (.t 0), none⟩,
  ⟨some 13, .mv (.t 5), none⟩,
  ⟨some 14, .mv (.t 1), none⟩,
  ⟨some 15, .iaddr 2 (.t 12) (.t 13), none⟩,
  ⟨some 16, .faddr 0 0 (.t 15), none⟩,
  ⟨none, .store 1 (.t 16) (.t 14), none⟩])
 (.seq (.region 0 [⟨some 17, .mv (.t 1), none⟩,
  ⟨some 18, .bin .add (.t 17) (.c (.int .i64 1)), none⟩,
  ⟨some 1, .mv (.t 18), none⟩])
 (.seq (.region 0 [⟨some 19, .mv (.t 0), none⟩,
  ⟨some 20, .mv (.t 5), none⟩,
  ⟨some 21, .mv (.t 1), none⟩,
  ⟨some 22, .iaddr 2 (.t 19) (.t 20), none⟩,
  ⟨some 23, .faddr 1 1 (.t 22), none⟩,
  ⟨none, .store 1 (.t 23) (.t 21), none⟩])
 (.region 0 [⟨some 24, .mv (.t 1), none⟩,
  ⟨some 25, .bin .add (.t 24) (.c (.int .i64 1)), none⟩,
  ⟨some 1, .mv (.t 25), none⟩])))))
 (.region 0 [⟨some 10, .mv (.t 5), none⟩,
  ⟨some 11, .bin .add (.t 10) (.c (.int .i64 1)), none⟩,
  ⟨some 5, .mv (.t 11), none⟩])))
def laws_markWriteS_M_r0 : AC :=
 (.seq (.region 0 [⟨some 26, .mv (.t 1), none⟩,
  ⟨some 4, .mv (.t 26), none⟩])
 .ret)
def laws_markWriteS_M_ac : AC :=
 (.seq (.region 0 [⟨some 4, .mv (.c (.int .i64 0)), none⟩])
 (.seq (.seq (.region 0 [⟨some 5, .mv (.c (.int .i64 0)), none⟩])
 (.block 0 (.loop ⟨[0, 1, 5], [], [(5000, true)]⟩ laws_markWriteS_M_b0)))
 laws_markWriteS_M_r0))
noncomputable def laws_markWriteS_M_l0 (E : Env) (x1 : U) (x5 : U) (b5000 : List U) : Option U := loopK (roundOf E ⟨[0, 1, 5], [], [(5000, true)]⟩ laws_markWriteS_M_b0 (blockK 0 (seqK (fun s => exec E laws_markWriteS_M_r0 s (finishM 2 [(4, none)])) (finishM 2 [(4, none)])))) ([.ref 5000 [] 2 none, .val x1, .val x5], [.vir (.own (.sl 2 b5000))])
theorem laws_markWriteS_M_eq (E : Env) (xs0 : List U) (a1 : U) : exec E laws_markWriteS_M_ac (startM 2 xs0 [a1]) (finishM 2 [(4, none)]) =
 laws_markWriteS_M_l0 E a1 (.int .i64 0) xs0 := by kernel_rfl
theorem laws_markWriteS_M_l0_eq (E : Env) (x1 : U) (x5 : U) (b5000 : List U) : laws_markWriteS_M_l0 E x1 x5 b5000 =
 (U.bin .lss x5 (.int .i64 (b5000.length : Int))).bind fun t1 => U.asBool t1
 (U.asInt x5 fun n2 => if 2 = 2 ∧ 0 ≤ n2 ∧ n2 < (b5000.length : Int) then if storable (.val x1) = true ∧ x1.size = 1 then (b5000[(n2 : Int).toNat]?).bind fun e3 => U.asAgg e3 fun us4 => if 0 = sizes (us4.take 0) then (us4[0]?).bind fun e5 => if e5.size = 1 then if (x1 : U).flat = true then (U.bin .add x1 (.int .i64 1)).bind fun t6 => U.asInt x5 fun n7 => if 2 = 2 ∧ 0 ≤ n7 ∧ n7 < (((b5000.set (n2 : Int).toNat (.agg (us4.set 0 x1)))).length : Int) then if storable (.val t6) = true ∧ t6.size = 1 then ((b5000.set (n2 : Int).toNat (.agg (us4.set 0 x1)))[(n7 : Int).toNat]?).bind fun e8 => U.asAgg e8 fun us9 => if 1 = sizes (us9.take 1) then (us9[1]?).bind fun e10 => if e10.size = 1 then if (t6 : U).flat = true then (U.bin .add t6 (.int .i64 1)).bind fun t11 => (U.bin .add x5 (.int .i64 1)).bind fun t12 => laws_markWriteS_M_l0 E t11 t12 ((b5000.set (n2 : Int).toNat (.agg (us4.set 0 x1))).set (n7 : Int).toNat (.agg (us9.set 1 t6))) else none else none else none else none else none else none else none else none else none else none)
 (if (x1 : U).flat = true then some (.tup [x1, .sl 2 b5000]) else none) :=
 (loop_eq E _ _ _ _).trans (by kernel_rfl)

/-- In the environment E: this function and those that it calls. -/
structure G_laws_markWriteS_M (E : Env) : Prop where
  is : Is E 200232 2 laws_markWriteS_M_ac [(4, none)]
theorem laws_markWriteS_M_E {E : Env} (h : G_laws_markWriteS_M E) (xs0 : List U) (a1 : U) : E 200232 (.agg [.tup [.sl 2 xs0]] :: [a1]) =
 laws_markWriteS_M_l0 E a1 (.int .i64 0) xs0 := (h.is _ rfl).trans ((runQ_M rfl).trans (laws_markWriteS_M_eq E xs0 a1))

end Go.Proofs.Ytfdcdbkblkehcaa.Am
