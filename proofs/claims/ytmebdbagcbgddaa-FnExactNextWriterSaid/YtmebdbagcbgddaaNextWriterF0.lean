import Derived.KernelRfl
import Derived.Test.YtmebdbagcbgddaaAmW
namespace Go.Proofs.Ytmebdbagcbgddaa.Am
open Go
set_option linter.unusedVariables false
set_option maxRecDepth 100000

/- loop.example/g01924/laws.szReadMarkS -/
def laws_szReadMarkS_ac : AC :=
 (.seq (.region 0 [⟨some 4, .mv (.c (.int .i64 0)), none⟩])
 (.seq (.region 0 [⟨some 5, .mv (.t 1), none⟩,
  ⟨some 6, .mv (.t 0), none⟩,
  ⟨some 7, .len false (.t 6), none⟩,
  ⟨some 8, .bin .sub (.t 5) (.t 7), none⟩,
  ⟨some 1, .mv (.t 8), none⟩])
 (.seq (.seq (.region 0 [⟨some 9, .mv (.t 1), none⟩,
  ⟨some 10, .bin .lss (.t 9) (.c (.int .i64 0)), none⟩])
 (.cond (.t 10) (.seq (.region 0 [⟨some 4, .mv (.c (.int .i64 (-1))), none⟩])
 .ret) .skip))
 (.seq (.region 0 [⟨some 11, .mv (.t 1), none⟩,
  ⟨some 4, .mv (.t 11), none⟩])
 .ret))))

theorem laws_szReadMarkS_eq (E : Env) (a0 : U) (a1 : U) : run E laws_szReadMarkS_ac [(4, none)] [a0, a1] =
 (U.lenOf false a0).bind fun n1 => (U.bin .sub a1 (.int .i64 (n1 : Int))).bind fun t2 => (U.bin .lss t2 (.int .i64 0)).bind fun t3 => U.asBool t3
 (some (.int .i64 (-1)))
 (some t2) := by kernel_rfl

/-- In the environment E: this function and those that it calls. -/
structure G_laws_szReadMarkS (E : Env) : Prop where
  is : Is E 24 2 laws_szReadMarkS_ac [(4, none)]
theorem laws_szReadMarkS_E {E : Env} (h : G_laws_szReadMarkS E) (a0 a1 : U) : E 24 [a0, a1] =
 (U.lenOf false a0).bind fun n1 => (U.bin .sub a1 (.int .i64 (n1 : Int))).bind fun t2 => (U.bin .lss t2 (.int .i64 0)).bind fun t3 => U.asBool t3
 (some (.int .i64 (-1)))
 (some t2) := (h.is _ rfl).trans (laws_szReadMarkS_eq E a0 a1)

end Go.Proofs.Ytmebdbagcbgddaa.Am
namespace Go.Proofs.Ytmebdbagcbgddaa.Am
open Go
set_option linter.unusedVariables false
set_option maxRecDepth 100000

/- loop.example/g01924/laws.szWriteS -/
def laws_szWriteS_ac : AC :=
 (.seq (.region 0 [⟨some 4, .mv (.c (.int .i64 0)), none⟩])
 (.seq (.region 0 [⟨some 5, .mv (.t 1), none⟩,
  ⟨some 6, .mv (.t 0), none⟩,
  ⟨some 7, .len false (.t 6), none⟩,
  ⟨some 8, .bin .sub (.t 5) (.t 7), none⟩,
  ⟨some 1, .mv (.t 8), none⟩])
 (.seq (.seq (.region 0 [⟨some 9, .mv (.t 1), none⟩,
  ⟨some 10, .bin .lss (.t 9) (.c (.int .i64 0)), none⟩])
 (.cond (.t 10) (.seq (.region 0 [⟨some 4, .mv (.c (.int .i64 (-1))), none⟩])
 .ret) .skip))
 (.seq (.region 0 [⟨some 11, .mv (.t 1), none⟩,
  ⟨some 4, .mv (.t 11), none⟩])
 .ret))))

theorem laws_szWriteS_eq (E : Env) (a0 : U) (a1 : U) : run E laws_szWriteS_ac [(4, none)] [a0, a1] =
 (U.lenOf false a0).bind fun n1 => (U.bin .sub a1 (.int .i64 (n1 : Int))).bind fun t2 => (U.bin .lss t2 (.int .i64 0)).bind fun t3 => U.asBool t3
 (some (.int .i64 (-1)))
 (some t2) := by kernel_rfl

/-- In the environment E: this function and those that it calls. -/
structure G_laws_szWriteS (E : Env) : Prop where
  is : Is E 23 2 laws_szWriteS_ac [(4, none)]
theorem laws_szWriteS_E {E : Env} (h : G_laws_szWriteS E) (a0 a1 : U) : E 23 [a0, a1] =
 (U.lenOf false a0).bind fun n1 => (U.bin .sub a1 (.int .i64 (n1 : Int))).bind fun t2 => (U.bin .lss t2 (.int .i64 0)).bind fun t3 => U.asBool t3
 (some (.int .i64 (-1)))
 (some t2) := (h.is _ rfl).trans (laws_szWriteS_eq E a0 a1)

end Go.Proofs.Ytmebdbagcbgddaa.Am
namespace Go.Proofs.Ytmebdbagcbgddaa.Am
open Go
set_option linter.unusedVariables false
set_option maxRecDepth 100000

/- loop.example/g01924/laws.szEntry -/
def laws_szEntry_ac : AC :=
 (.seq (.region 0 [⟨some 2, .box false (.t 0), none⟩,
  ⟨some 4, .mv (.c (.int .i64 0)), none⟩])
 (.seq (.region 0 [⟨some 5, .faddr 2 2 (.t 2), none⟩,
  ⟨some 6, .load false 1 (.t 5), none⟩,
  ⟨some 7, .mv (.t 1), none⟩,
  ⟨some 8, .call false 24 [(.t 6), (.t 7)], none⟩,
  ⟨some 1, .mv (.t 8), none⟩])
 (.seq (.seq (.region 0 [⟨some 9, .mv (.t 1), none⟩,
  ⟨some 10, .bin .lss (.t 9) (.c (.int .i64 0)), none⟩])
 (.cond (.t 10) (.seq (.region 0 [⟨some 4, .mv (.c (.int .i64 (-1))), none⟩])
 .ret) .skip))
 (.seq (.region 0 [⟨some 11, .faddr 3 3 (.t 2), none⟩,
  ⟨some 12, .load false 1 (.t 11), none⟩,
  ⟨some 13, .mv (.t 1), none⟩,
  ⟨some 14, .call false 23 [(.t 12), (.t 13)], none⟩,
  ⟨some 1, .mv (.t 14), none⟩])
 (.seq (.seq (.region 0 [⟨some 15, .mv (.t 1), none⟩,
  ⟨some 16, .bin .lss (.t 15) (.c (.int .i64 0)), none⟩])
 (.cond (.t 16) (.seq (.region 0 [⟨some 4, .mv (.c (.int .i64 (-1))), none⟩])
 .ret) .skip))
 (.seq (.region 0 [⟨some 17, .mv (.t 1), none⟩,
  ⟨some 4, .mv (.t 17), none⟩])
 .ret))))))

theorem laws_szEntry_eq (E : Env) (a0 : U) (a1 : U) : run E laws_szEntry_ac [(4, none)] [a0, a1] =
 U.noTup a0 fun x1 => U.asAgg x1 fun us2 => if 2 = sizes (us2.take 2) then (us2[2]?).bind fun e3 => U.asVar false 1 e3 fun e4 => (E 24 [e4, a1]).bind fun t5 => (U.bin .lss t5 (.int .i64 0)).bind fun t6 => U.asBool t6
 (some (.int .i64 (-1)))
 (U.asAgg x1 fun us7 => if 3 = sizes (us7.take 3) then (us7[3]?).bind fun e8 => U.asVar false 1 e8 fun e9 => (E 23 [e9, t5]).bind fun t10 => (U.bin .lss t10 (.int .i64 0)).bind fun t11 => U.asBool t11
 (some (.int .i64 (-1)))
 (some t10) else none) else none := by kernel_rfl

/-- In the environment E: this function and those that it calls. -/
structure G_laws_szEntry (E : Env) : Prop where
  is : Is E 50 2 laws_szEntry_ac [(4, none)]
  c_laws_szReadMarkS : G_laws_szReadMarkS E
  c_laws_szWriteS : G_laws_szWriteS E
theorem laws_szEntry_E {E : Env} (h : G_laws_szEntry E) (a0 a1 : U) : E 50 [a0, a1] =
 U.noTup a0 fun x1 => U.asAgg x1 fun us2 => if 2 = sizes (us2.take 2) then (us2[2]?).bind fun e3 => U.asVar false 1 e3 fun e4 => (E 24 [e4, a1]).bind fun t5 => (U.bin .lss t5 (.int .i64 0)).bind fun t6 => U.asBool t6
 (some (.int .i64 (-1)))
 (U.asAgg x1 fun us7 => if 3 = sizes (us7.take 3) then (us7[3]?).bind fun e8 => U.asVar false 1 e8 fun e9 => (E 23 [e9, t5]).bind fun t10 => (U.bin .lss t10 (.int .i64 0)).bind fun t11 => U.asBool t11
 (some (.int .i64 (-1)))
 (some t10) else none) else none := (h.is _ rfl).trans (laws_szEntry_eq E a0 a1)

end Go.Proofs.Ytmebdbagcbgddaa.Am
namespace Go.Proofs.Ytmebdbagcbgddaa.Am
open Go
set_option linter.unusedVariables false
set_option maxRecDepth 100000

/- loop.example/g01924/laws.szEntryS -/
def laws_szEntryS_b0 : AC :=
 (.seq (.seq (.region 0 [⟨some 12, .mv (.t 5), none⟩,
  ⟨some 13, .mv (.t 0), none⟩,
  ⟨some 14, .len false (.t 13), none⟩,
  ⟨some 15, .bin .lss (.t 12) (.t 14), none⟩])
 (.cond (.t 15) .skip (.exit 0)))
 (.seq (.block 1 (.seq (.region 0 [⟨some 18, .mv (.t 0), none⟩,
  ⟨some 19, .mv (.t 5), none⟩,
  ⟨some 20, .iaddr 4 (.t 18) (.t 19), none⟩,
  ⟨some 21, .load true 4 (.t 20), none⟩,
  ⟨some 22, .mv (.t 1), none⟩,
  ⟨some 23, .call false 50 [(.t 21), (.t 22)], none⟩,
  ⟨some 1, .mv (.t 23), none⟩])
 (.seq (.region 0 [⟨some 24, .mv (.t 1), none⟩,
  ⟨some 25, .bin .lss (.t 24) (.c (.int .i64 0)), none⟩])
 (.cond (.t 25) (.seq (.region 0 [⟨some 4, .mv (.c (.int .i64 (-1))), none⟩])
 .ret) .skip))))
 (.region 0 [⟨some 16, .mv (.t 5), none⟩,
  ⟨some 17, .bin .add (.t 16) (.c (.int .i64 1)), none⟩,
  ⟨some 5, .mv (.t 17), none⟩])))
def laws_szEntryS_r0 : AC :=
 (.seq (.region 0 [⟨some 26, .mv (.t 1), none⟩,
  ⟨some 4, .mv (.t 26), none⟩])
 .ret)
def laws_szEntryS_ac : AC :=
 (.seq (.region 0 [⟨some 4, .mv (.c (.int .i64 0)), none⟩])
 (.seq (.region 0 [⟨some 6, .mv (.t 1), none⟩,
  ⟨some 7, .mv (.t 0), none⟩,
  ⟨some 8, .len false (.t 7), none⟩,
  ⟨some 9, .bin .sub (.t 6) (.t 8), none⟩,
  ⟨some 1, .mv (.t 9), none⟩])
 (.seq (.seq (.region 0 [⟨some 10, .mv (.t 1), none⟩,
  ⟨some 11, .bin .lss (.t 10) (.c (.int .i64 0)), none⟩])
 (.cond (.t 11) (.seq (.region 0 [⟨some 4, .mv (.c (.int .i64 (-1))), none⟩])
 .ret) .skip))
 (.seq (.seq (.region 0 [⟨some 5, .mv (.c (.int .i64 0)), none⟩])
 (.block 0 (.loop ⟨[0, 1, 5], [], []⟩ laws_szEntryS_b0)))
 laws_szEntryS_r0))))
noncomputable def laws_szEntryS_l0 (E : Env) (x0 : U) (x1 : U) (x5 : U) : Option U := loopK (roundOf E ⟨[0, 1, 5], [], []⟩ laws_szEntryS_b0 (blockK 0 (seqK (fun s => exec E laws_szEntryS_r0 s (finish [(4, none)])) (finish [(4, none)])))) ([.val x0, .val x1, .val x5], [])
theorem laws_szEntryS_eq (E : Env) (a0 : U) (a1 : U) : run E laws_szEntryS_ac [(4, none)] [a0, a1] =
 (U.lenOf false a0).bind fun n1 => (U.bin .sub a1 (.int .i64 (n1 : Int))).bind fun t2 => (U.bin .lss t2 (.int .i64 0)).bind fun t3 => U.asBool t3
 (some (.int .i64 (-1)))
 (laws_szEntryS_l0 E a0 t2 (.int .i64 0)) := by kernel_rfl
theorem laws_szEntryS_l0_eq (E : Env) (x0 : U) (x1 : U) (x5 : U) : laws_szEntryS_l0 E x0 x1 x5 =
 (U.lenOf false x0).bind fun n4 => (U.bin .lss x5 (.int .i64 (n4 : Int))).bind fun t5 => U.asBool t5
 (U.asInt x5 fun n6 => U.elemAt 4 x0 n6 fun e7 => U.asVar true 4 e7 fun e8 => (E 50 [e8, x1]).bind fun t9 => (U.bin .lss t9 (.int .i64 0)).bind fun t10 => U.asBool t10
 (some (.int .i64 (-1)))
 ((U.bin .add x5 (.int .i64 1)).bind fun t11 => laws_szEntryS_l0 E x0 t9 t11))
 (some x1) :=
 (loop_eq E _ _ _ _).trans (by kernel_rfl)

/-- In the environment E: this function and those that it calls. -/
structure G_laws_szEntryS (E : Env) : Prop where
  is : Is E 49 2 laws_szEntryS_ac [(4, none)]
  c_laws_szEntry : G_laws_szEntry E
theorem laws_szEntryS_E {E : Env} (h : G_laws_szEntryS E) (a0 a1 : U) : E 49 [a0, a1] =
 (U.lenOf false a0).bind fun n1 => (U.bin .sub a1 (.int .i64 (n1 : Int))).bind fun t2 => (U.bin .lss t2 (.int .i64 0)).bind fun t3 => U.asBool t3
 (some (.int .i64 (-1)))
 (laws_szEntryS_l0 E a0 t2 (.int .i64 0)) := (h.is _ rfl).trans (laws_szEntryS_eq E a0 a1)

end Go.Proofs.Ytmebdbagcbgddaa.Am
namespace Go.Proofs.Ytmebdbagcbgddaa.Am
open Go
set_option linter.unusedVariables false
set_option maxRecDepth 100000

/- loop.example/g01924/spec.NextWriter -/
def spec_NextWriter_b1 : AC :=
 (.seq (.seq (.region 0 [⟨some 16, .mv (.t 9), none⟩,
  ⟨some 17, .mv (.t 0), none⟩,
  ⟨some 18, .mv (.t 8), none⟩,
  ⟨some 19, .iaddr 4 (.t 17) (.t 18), none⟩,
  ⟨some 20, .faddr 3 3 (.t 19), none⟩,
  ⟨some 21, .load false 1 (.t 20), none⟩,
  ⟨some 22, .len false (.t 21), none⟩,
  ⟨some 23, .bin .lss (.t 16) (.t 22), none⟩])
 (.cond (.t 23) .skip (.exit 2)))
 (.seq (.block 3 (.seq (.region 37 [⟨some 26, .mv (.t 0), none⟩,
  ⟨some 27, .mv (.t 8), none⟩,
  ⟨some 28, .iaddr 4 (.t 26) (.t 27), none⟩,
  ⟨some 29, .faddr 3 3 (.t 28), none⟩,
  ⟨some 30, .load false 1 (.t 29), none⟩,
  ⟨some 31, .mv (.t 9), none⟩,
  ⟨some 32, .iaddr 2 (.t 30) (.t 31), none⟩,
  ⟨some 33, .faddr 0 0 (.t 32), none⟩,
  ⟨some 34, .load false 1 (.t 33), none⟩,
  ⟨some 35, .mv (.t 1), none⟩,
  ⟨some 36, .bin .eql (.t 34) (.t 35), none⟩,
  ⟨some 37, .mv (.t 36), none⟩,
  ⟨some 38, .mv (.t 0), some (37, true)⟩,
  ⟨some 39, .mv (.t 8), some (37, true)⟩,
  ⟨some 40, .iaddr 4 (.t 38) (.t 39), some (37, true)⟩,
  ⟨some 41, .faddr 1 1 (.t 40), some (37, true)⟩,
  ⟨some 42, .load false 1 (.t 41), some (37, true)⟩,
  ⟨some 43, .mv (.t 2), some (37, true)⟩,
  ⟨some 44, .bin .gtr (.t 42) (.t 43), some (37, true)⟩,
  ⟨some 45, .pick (.t 37) (.t 44) (.c (.bool false)), none⟩,
  ⟨some 46, .mv (.t 45), none⟩,
  ⟨some 47, .mv (.t 7), some (46, true)⟩,
  ⟨some 48, .bin .lss (.t 47) (.c (.int .i64 0)), some (46, true)⟩,
  ⟨some 49, .mv (.t 48), some (46, true)⟩,
  ⟨some 50, .mv (.t 0), some (49, false)⟩,
  ⟨some 51, .mv (.t 8), some (49, false)⟩,
  ⟨some 52, .iaddr 4 (.t 50) (.t 51), some (49, false)⟩,
  ⟨some 53, .faddr 1 1 (.t 52), some (49, false)⟩,
  ⟨some 54, .load false 1 (.t 53), some (49, false)⟩,
  ⟨some 55, .mv (.t 0), some (49, false)⟩,
  ⟨some 56, .mv (.t 7), some (49, false)⟩,
  ⟨some 57, .iaddr 4 (.t 55) (.t 56), some (49, false)⟩,
  ⟨some 58, .faddr 1 1 (.t 57), some (49, false)⟩,
  ⟨some 59, .load false 1 (.t 58), some (49, false)⟩,
  ⟨some 60, .bin .lss (.t 54) (.t 59), some (49, false)⟩,
  ⟨some 61, .pick (.t 49) (.c (.bool true)) (.t 60), some (46, true)⟩,
  ⟨some 62, .pick (.t 46) (.t 61) (.c (.bool false)), none⟩])
 (.cond (.t 62) (.region 0 [⟨some 63, .mv (.t 8), none⟩,
  ⟨some 7, .mv (.t 63), none⟩]) .skip)))
 (.region 0 [⟨some 24, .mv (.t 9), none⟩,
  ⟨some 25, .bin .add (.t 24) (.c (.int .i64 1)), none⟩,
  ⟨some 9, .mv (.t 25), none⟩])))
def spec_NextWriter_r0 : AC :=
 (.region 0 [⟨some 14, .mv (.t 8), none⟩,
  ⟨some 15, .bin .add (.t 14) (.c (.int .i64 1)), none⟩,
  ⟨some 8, .mv (.t 15), none⟩])
def spec_NextWriter_b0 : AC :=
 (.seq (.seq (.region 0 [⟨some 10, .mv (.t 8), none⟩,
  ⟨some 11, .mv (.t 0), none⟩,
  ⟨some 12, .len false (.t 11), none⟩,
  ⟨some 13, .bin .lss (.t 10) (.t 12), none⟩])
 (.cond (.t 13) .skip (.exit 0)))
 (.seq (.block 1 (.seq (.region 0 [⟨some 9, .mv (.c (.int .i64 0)), none⟩])
 (.block 2 (.loop ⟨[0, 1, 2, 7, 8, 9], [], []⟩ spec_NextWriter_b1))))
 spec_NextWriter_r0))
def spec_NextWriter_r1 : AC :=
 (.seq (.seq (.region 0 [⟨some 64, .mv (.t 7), none⟩,
  ⟨some 65, .bin .lss (.t 64) (.c (.int .i64 0)), none⟩])
 (.cond (.t 65) (.seq (.region 0 [⟨some 6, .mv (.c (.int .i64 0)), none⟩])
 .ret) .skip))
 (.seq (.region 0 [⟨some 66, .mv (.t 0), none⟩,
  ⟨some 67, .mv (.t 7), none⟩,
  ⟨some 68, .iaddr 4 (.t 66) (.t 67), none⟩,
  ⟨some 69, .faddr 0 0 (.t 68), none⟩,
  ⟨some 70, .load false 1 (.t 69), none⟩,
  ⟨some 6, .mv (.t 70), none⟩])
 .ret))
def spec_NextWriter_ac : AC :=
 (.seq (.region 0 [⟨some 6, .mv (.c (.int .i64 0)), none⟩])
 (.seq (.region 0 [⟨some 7, .mv (.c (.int .i64 (-1))), none⟩])
 (.seq (.seq (.region 0 [⟨some 8, .mv (.c (.int .i64 0)), none⟩])
 (.block 0 (.loop ⟨[0, 1, 2, 7, 8], [], []⟩ spec_NextWriter_b0)))
 spec_NextWriter_r1)))
noncomputable def spec_NextWriter_l0 (E : Env) (x0 : U) (x1 : U) (x2 : U) (x7 : U) (x8 : U) : Option U := loopK (roundOf E ⟨[0, 1, 2, 7, 8], [], []⟩ spec_NextWriter_b0 (blockK 0 (seqK (fun s => exec E spec_NextWriter_r1 s (finish [(6, none)])) (finish [(6, none)])))) ([.val x0, .val x1, .val x2, .val x7, .val x8], [])
noncomputable def spec_NextWriter_l1 (E : Env) (x0 : U) (x1 : U) (x2 : U) (x7 : U) (x8 : U) (x9 : U) : Option U := loopK (roundOf E ⟨[0, 1, 2, 7, 8, 9], [], []⟩ spec_NextWriter_b1 (blockK 2 (blockK 1 (seqK (fun s => exec E spec_NextWriter_r0 s (roundK ⟨[0, 1, 2, 7, 8], [], []⟩ (loopK (roundOf E ⟨[0, 1, 2, 7, 8], [], []⟩ spec_NextWriter_b0 (blockK 0 (seqK (fun s => exec E spec_NextWriter_r1 s (finish [(6, none)])) (finish [(6, none)]))))) (blockK 0 (seqK (fun s => exec E spec_NextWriter_r1 s (finish [(6, none)])) (finish [(6, none)]))))) (roundK ⟨[0, 1, 2, 7, 8], [], []⟩ (loopK (roundOf E ⟨[0, 1, 2, 7, 8], [], []⟩ spec_NextWriter_b0 (blockK 0 (seqK (fun s => exec E spec_NextWriter_r1 s (finish [(6, none)])) (finish [(6, none)]))))) (blockK 0 (seqK (fun s => exec E spec_NextWriter_r1 s (finish [(6, none)])) (finish [(6, none)])))))))) ([.val x0, .val x1, .val x2, .val x7, .val x8, .val x9], [])
theorem spec_NextWriter_eq (E : Env) (a0 : U) (a1 : U) (a2 : U) : run E spec_NextWriter_ac [(6, none)] [a0, a1, a2] =
 spec_NextWriter_l0 E a0 a1 a2 (.int .i64 (-1)) (.int .i64 0) := by kernel_rfl
theorem spec_NextWriter_l0_eq (E : Env) (x0 : U) (x1 : U) (x2 : U) (x7 : U) (x8 : U) : spec_NextWriter_l0 E x0 x1 x2 x7 x8 =
 (U.lenOf false x0).bind fun n1 => (U.bin .lss x8 (.int .i64 (n1 : Int))).bind fun t2 => U.asBool t2
 (spec_NextWriter_l1 E x0 x1 x2 x7 x8 (.int .i64 0))
 ((U.bin .lss x7 (.int .i64 0)).bind fun t3 => U.asBool t3
 (some (.int .i64 0))
 (U.asInt x7 fun n4 => U.elemAt 4 x0 n4 fun e5 => U.fieldAt 0 0 e5 fun f6 => U.asVar false 1 f6 fun e7 => some e7)) :=
 (loop_eq E _ _ _ _).trans (by kernel_rfl)
theorem spec_NextWriter_l1_eq (E : Env) (x0 : U) (x1 : U) (x2 : U) (x7 : U) (x8 : U) (x9 : U) : spec_NextWriter_l1 E x0 x1 x2 x7 x8 x9 =
 U.asInt x8 fun n8 => U.elemAt 4 x0 n8 fun e9 => U.fieldAt 3 3 e9 fun f10 => U.asVar false 1 f10 fun e11 => (U.lenOf false e11).bind fun n12 => (U.bin .lss x9 (.int .i64 (n12 : Int))).bind fun t13 => U.asBool t13
 (U.asInt x8 fun n14 => U.elemAt 4 x0 n14 fun e15 => U.fieldAt 3 3 e15 fun f16 => U.asVar false 1 f16 fun e17 => U.asInt x9 fun n18 => U.elemAt 2 e17 n18 fun e19 => U.fieldAt 0 0 e19 fun f20 => U.asVar false 1 f20 fun e21 => (U.bin .eql e21 x1).bind fun t22 => U.asBool t22
 (U.asInt x8 fun n23 => U.elemAt 4 x0 n23 fun e24 => U.fieldAt 1 1 e24 fun f25 => U.asVar false 1 f25 fun e26 => (U.bin .gtr e26 x2).bind fun t27 => U.asBool t27
 ((U.bin .lss x7 (.int .i64 0)).bind fun t28 => U.asBool t28
 ((U.bin .add x9 (.int .i64 1)).bind fun t29 => spec_NextWriter_l1 E x0 x1 x2 x8 x8 t29)
 (U.asInt x8 fun n30 => U.elemAt 4 x0 n30 fun e31 => U.fieldAt 1 1 e31 fun f32 => U.asVar false 1 f32 fun e33 => U.asInt x7 fun n34 => U.elemAt 4 x0 n34 fun e35 => U.fieldAt 1 1 e35 fun f36 => U.asVar false 1 f36 fun e37 => (U.bin .lss e33 e37).bind fun t38 => U.asBool t38
 ((U.bin .add x9 (.int .i64 1)).bind fun t39 => spec_NextWriter_l1 E x0 x1 x2 x8 x8 t39)
 ((U.bin .add x9 (.int .i64 1)).bind fun t40 => spec_NextWriter_l1 E x0 x1 x2 x7 x8 t40)))
 ((U.bin .add x9 (.int .i64 1)).bind fun t41 => spec_NextWriter_l1 E x0 x1 x2 x7 x8 t41))
 ((U.bin .add x9 (.int .i64 1)).bind fun t42 => spec_NextWriter_l1 E x0 x1 x2 x7 x8 t42))
 ((U.bin .add x8 (.int .i64 1)).bind fun t43 => spec_NextWriter_l0 E x0 x1 x2 x7 t43) :=
 (loop_eq E _ _ _ _).trans (by kernel_rfl)

/-- In the environment E: this function and those that it calls. -/
structure G_spec_NextWriter (E : Env) : Prop where
  is : Is E 48 3 spec_NextWriter_ac [(6, none)]
theorem spec_NextWriter_E {E : Env} (h : G_spec_NextWriter E) (a0 a1 a2 : U) : E 48 [a0, a1, a2] =
 spec_NextWriter_l0 E a0 a1 a2 (.int .i64 (-1)) (.int .i64 0) := (h.is _ rfl).trans (spec_NextWriter_eq E a0 a1 a2)

end Go.Proofs.Ytmebdbagcbgddaa.Am
namespace Go.Proofs.Ytmebdbagcbgddaa.Am
open Go
set_option linter.unusedVariables false
set_option maxRecDepth 100000

/- loop.example/g01924/laws.toReadMark -/
def laws_toReadMark_ac : AC :=
 (.seq (.region 0 [⟨some 1, .box false (.t 0), none⟩,
  ⟨some 2, .alloc (.agg [(.int .i64 0), (.int .i64 0)]), none⟩])
 (.seq (.region 0 [⟨some 3, .alloc (.agg [(.int .i64 0), (.int .i64 0)]), none⟩])
 (.seq (.region 0 [⟨some 4, .faddr 0 0 (.t 1), none⟩,
  ⟨some 5, .load false 1 (.t 4), none⟩,
  ⟨some 6, .faddr 0 0 (.t 3), none⟩,
  ⟨none, .store 1 (.t 6) (.t 5), none⟩])
 (.seq (.region 0 [⟨some 7, .faddr 1 1 (.t 1), none⟩,
  ⟨some 8, .load false 1 (.t 7), none⟩,
  ⟨some 9, .faddr 1 1 (.t 3), none⟩,
  ⟨none, .store 1 (.t 9) (.t 8), none⟩])
 (.seq (.region 0 [⟨some 10, .load true 2 (.t 3), none⟩,
  ⟨none, .store 2 (.t 2) (.t 10), none⟩])
 .ret)))))

theorem laws_toReadMark_eq (E : Env) (a0 : U) : run E laws_toReadMark_ac [(2, some (true, 2))] [a0] =
 U.noTup a0 fun x1 => U.asAgg x1 fun us2 => if 0 = sizes (us2.take 0) then (us2[0]?).bind fun e3 => U.asVar false 1 e3 fun e4 => if storable (.val e4) = true ∧ e4.size = 1 then U.asAgg x1 fun us5 => if 1 = sizes (us5.take 1) then (us5[1]?).bind fun e6 => U.asVar false 1 e6 fun e7 => if storable (.val e7) = true ∧ e7.size = 1 then if 1 = sizes [e4] then U.asVar true 2 (.agg [e4, e7]) fun e8 => if storable (.val e8) = true ∧ e8.size = 2 then U.asVar true 2 e8 fun e9 => some e9 else none else none else none else none else none else none := by kernel_rfl

/-- In the environment E: this function and those that it calls. -/
structure G_laws_toReadMark (E : Env) : Prop where
  is : Is E 29 1 laws_toReadMark_ac [(2, some (true, 2))]
theorem laws_toReadMark_E {E : Env} (h : G_laws_toReadMark E) (a0 : U) : E 29 [a0] =
 U.noTup a0 fun x1 => U.asAgg x1 fun us2 => if 0 = sizes (us2.take 0) then (us2[0]?).bind fun e3 => U.asVar false 1 e3 fun e4 => if storable (.val e4) = true ∧ e4.size = 1 then U.asAgg x1 fun us5 => if 1 = sizes (us5.take 1) then (us5[1]?).bind fun e6 => U.asVar false 1 e6 fun e7 => if storable (.val e7) = true ∧ e7.size = 1 then if 1 = sizes [e4] then U.asVar true 2 (.agg [e4, e7]) fun e8 => if storable (.val e8) = true ∧ e8.size = 2 then U.asVar true 2 e8 fun e9 => some e9 else none else none else none else none else none else none := (h.is _ rfl).trans (laws_toReadMark_eq E a0)

end Go.Proofs.Ytmebdbagcbgddaa.Am
namespace Go.Proofs.Ytmebdbagcbgddaa.Am
open Go
set_option linter.unusedVariables false
set_option maxRecDepth 100000

/- loop.example/g01924/laws.toReadMarkS -/
def laws_toReadMarkS_b0 : AC :=
 (.seq (.seq (.region 0 [⟨some 8, .mv (.t 4), none⟩,
  ⟨some 9, .mv (.t 0), none⟩,
  ⟨some 10, .len false (.t 9), none⟩,
  ⟨some 11, .bin .lss (.t 8) (.t 10), none⟩])
 (.cond (.t 11) .skip (.exit 0)))
 (.seq (.block 1 (.region 0 [⟨some 14, .mv (.t 3), none⟩,
  ⟨some 15, .mv (.t 4), none⟩,
  ⟨some 16, .mv (.t 0), none⟩,
  ⟨some 17, .mv (.t 4), none⟩,
  ⟨some 18, .iaddr 2 (.t 16) (.t 17), none⟩,
  ⟨some 19, .load true 2 (.t 18), none⟩,
  ⟨some 20, .call false 29 [(.t 19)], none⟩,
  ⟨some 21, .iaddr 2 (.t 14) (.t 15), none⟩,
  ⟨none, .store 2 (.t 21) (.t 20), none⟩]))
 (.region 0 [⟨some 12, .mv (.t 4), none⟩,
  ⟨some 13, .bin .add (.t 12) (.c (.int .i64 1)), none⟩,
  ⟨some 4, .mv (.t 13), none⟩])))
def laws_toReadMarkS_r0 : AC :=
 (.seq (.region 0 [⟨some 22, .mv (.t 3), none⟩,
  ⟨some 2, .mv (.t 22), none⟩])
 .ret)
def laws_toReadMarkS_ac : AC :=
 (.seq (.region 0 [⟨some 2, .mv (.c (.nsl 2)), none⟩])
 (.seq (.region 0 [⟨some 5, .mv (.t 0), none⟩,
  ⟨some 6, .len false (.t 5), none⟩,
  ⟨some 7, .mkslice 2 16 (.agg [(.int .i64 0), (.int .i64 0)]) (.t 6) (.t 6), none⟩,
  ⟨some 3, .mv (.t 7), none⟩])
 (.seq (.seq (.region 0 [⟨some 4, .mv (.c (.int .i64 0)), none⟩])
 (.block 0 (.loop ⟨[0, 4], [(3, 2)], []⟩ laws_toReadMarkS_b0)))
 laws_toReadMarkS_r0)))
noncomputable def laws_toReadMarkS_l0 (E : Env) (x0 : U) (x4 : U) (c3 : List U) : Option U := loopK (roundOf E ⟨[0, 4], [(3, 2)], []⟩ laws_toReadMarkS_b0 (blockK 0 (seqK (fun s => exec E laws_toReadMarkS_r0 s (finish [(2, none)])) (finish [(2, none)])))) ([.val x0, .val x4], [.arr 2 c3])
theorem laws_toReadMarkS_eq (E : Env) (a0 : U) : run E laws_toReadMarkS_ac [(2, none)] [a0] =
 (U.lenOf false a0).bind fun n1 => if 0 ≤ (n1 : Int) ∧ (n1 : Int) ≤ (n1 : Int) ∧ (n1 : Int) * 16 ≤ 140737488355328 ∧ ((.agg [(.int .i64 0), (.int .i64 0)]) : U).size = 2 then laws_toReadMarkS_l0 E a0 (.int .i64 0) (List.replicate ((n1 : Int) : Int).toNat (.agg [(.int .i64 0), (.int .i64 0)])) else none := by kernel_rfl
theorem laws_toReadMarkS_l0_eq (E : Env) (x0 : U) (x4 : U) (c3 : List U) : laws_toReadMarkS_l0 E x0 x4 c3 =
 (U.lenOf false x0).bind fun n2 => (U.bin .lss x4 (.int .i64 (n2 : Int))).bind fun t3 => U.asBool t3
 (U.asInt x4 fun n4 => U.elemAt 2 x0 n4 fun e5 => U.asVar true 2 e5 fun e6 => (E 29 [e6]).bind fun t7 => U.asInt x4 fun n8 => if 2 = 2 ∧ 2 = 2 ∧ 0 ≤ n8 ∧ n8 < ((c3).length : Int) then if storable (.val t7) = true ∧ t7.size = 2 then if 2 = 2 then (c3[(n8 : Int).toNat]?).bind fun e9 => if e9.size = 2 then (U.bin .add x4 (.int .i64 1)).bind fun t10 => laws_toReadMarkS_l0 E x0 t10 (c3.set (n8 : Int).toNat t7) else none else none else none else none)
 (some (.sl 2 c3)) :=
 (loop_eq E _ _ _ _).trans (by kernel_rfl)

/-- In the environment E: this function and those that it calls. -/
structure G_laws_toReadMarkS (E : Env) : Prop where
  is : Is E 28 1 laws_toReadMarkS_ac [(2, none)]
  c_laws_toReadMark : G_laws_toReadMark E
theorem laws_toReadMarkS_E {E : Env} (h : G_laws_toReadMarkS E) (a0 : U) : E 28 [a0] =
 (U.lenOf false a0).bind fun n1 => if 0 ≤ (n1 : Int) ∧ (n1 : Int) ≤ (n1 : Int) ∧ (n1 : Int) * 16 ≤ 140737488355328 ∧ ((.agg [(.int .i64 0), (.int .i64 0)]) : U).size = 2 then laws_toReadMarkS_l0 E a0 (.int .i64 0) (List.replicate ((n1 : Int) : Int).toNat (.agg [(.int .i64 0), (.int .i64 0)])) else none := (h.is _ rfl).trans (laws_toReadMarkS_eq E a0)

end Go.Proofs.Ytmebdbagcbgddaa.Am
namespace Go.Proofs.Ytmebdbagcbgddaa.Am
open Go
set_option linter.unusedVariables false
set_option maxRecDepth 100000

/- loop.example/g01924/laws.toWrite -/
def laws_toWrite_ac : AC :=
 (.seq (.region 0 [⟨some 1, .box false (.t 0), none⟩,
  ⟨some 2, .alloc (.agg [(.int .i64 0), (.int .i64 0)]), none⟩])
 (.seq (.region 0 [⟨some 3, .alloc (.agg [(.int .i64 0), (.int .i64 0)]), none⟩])
 (.seq (.region 0 [⟨some 4, .faddr 0 0 (.t 1), none⟩,
  ⟨some 5, .load false 1 (.t 4), none⟩,
  ⟨some 6, .faddr 0 0 (.t 3), none⟩,
  ⟨none, .store 1 (.t 6) (.t 5), none⟩])
 (.seq (.region 0 [⟨some 7, .faddr 1 1 (.t 1), none⟩,
  ⟨some 8, .load false 1 (.t 7), none⟩,
  ⟨some 9, .faddr 1 1 (.t 3), none⟩,
  ⟨none, .store 1 (.t 9) (.t 8), none⟩])
 (.seq (.region 0 [⟨some 10, .load true 2 (.t 3), none⟩,
  ⟨none, .store 2 (.t 2) (.t 10), none⟩])
 .ret)))))

theorem laws_toWrite_eq (E : Env) (a0 : U) : run E laws_toWrite_ac [(2, some (true, 2))] [a0] =
 U.noTup a0 fun x1 => U.asAgg x1 fun us2 => if 0 = sizes (us2.take 0) then (us2[0]?).bind fun e3 => U.asVar false 1 e3 fun e4 => if storable (.val e4) = true ∧ e4.size = 1 then U.asAgg x1 fun us5 => if 1 = sizes (us5.take 1) then (us5[1]?).bind fun e6 => U.asVar false 1 e6 fun e7 => if storable (.val e7) = true ∧ e7.size = 1 then if 1 = sizes [e4] then U.asVar true 2 (.agg [e4, e7]) fun e8 => if storable (.val e8) = true ∧ e8.size = 2 then U.asVar true 2 e8 fun e9 => some e9 else none else none else none else none else none else none := by kernel_rfl

/-- In the environment E: this function and those that it calls. -/
structure G_laws_toWrite (E : Env) : Prop where
  is : Is E 30 1 laws_toWrite_ac [(2, some (true, 2))]
theorem laws_toWrite_E {E : Env} (h : G_laws_toWrite E) (a0 : U) : E 30 [a0] =
 U.noTup a0 fun x1 => U.asAgg x1 fun us2 => if 0 = sizes (us2.take 0) then (us2[0]?).bind fun e3 => U.asVar false 1 e3 fun e4 => if storable (.val e4) = true ∧ e4.size = 1 then U.asAgg x1 fun us5 => if 1 = sizes (us5.take 1) then (us5[1]?).bind fun e6 => U.asVar false 1 e6 fun e7 => if storable (.val e7) = true ∧ e7.size = 1 then if 1 = sizes [e4] then U.asVar true 2 (.agg [e4, e7]) fun e8 => if storable (.val e8) = true ∧ e8.size = 2 then U.asVar true 2 e8 fun e9 => some e9 else none else none else none else none else none else none := (h.is _ rfl).trans (laws_toWrite_eq E a0)

end Go.Proofs.Ytmebdbagcbgddaa.Am
namespace Go.Proofs.Ytmebdbagcbgddaa.Am
open Go
set_option linter.unusedVariables false
set_option maxRecDepth 100000

/- loop.example/g01924/laws.toWriteS -/
def laws_toWriteS_b0 : AC :=
 (.seq (.seq (.region 0 [⟨some 8, .mv (.t 4), none⟩,
  ⟨some 9, .mv (.t 0), none⟩,
  ⟨some 10, .len false (.t 9), none⟩,
  ⟨some 11, .bin .lss (.t 8) (.t 10), none⟩])
 (.cond (.t 11) .skip (.exit 0)))
 (.seq (.block 1 (.region 0 [⟨some 14, .mv (.t 3), none⟩,
  ⟨some 15, .mv (.t 4), none⟩,
  ⟨some 16, .mv (.t 0), none⟩,
  ⟨some 17, .mv (.t 4), none⟩,
  ⟨some 18, .iaddr 2 (.t 16) (.t 17), none⟩,
  ⟨some 19, .load true 2 (.t 18), none⟩,
  ⟨some 20, .call false 30 [(.t 19)], none⟩,
  ⟨some 21, .iaddr 2 (.t 14) (.t 15), none⟩,
  ⟨none, .store 2 (.t 21) (.t 20), none⟩]))
 (.region 0 [⟨some 12, .mv (.t 4), none⟩,
  ⟨some 13, .bin .add (.t 12) (.c (.int .i64 1)), none⟩,
  ⟨some 4, .mv (.t 13), none⟩])))
def laws_toWriteS_r0 : AC :=
 (.seq (.region 0 [⟨some 22, .mv (.t 3), none⟩,
  ⟨some 2, .mv (.t 22), none⟩])
 .ret)
def laws_toWriteS_ac : AC :=
 (.seq (.region 0 [⟨some 2, .mv (.c (.nsl 2)), none⟩])
 (.seq (.region 0 [⟨some 5, .mv (.t 0), none⟩,
  ⟨some 6, .len false (.t 5), none⟩,
  ⟨some 7, .mkslice 2 16 (.agg [(.int .i64 0), (.int .i64 0)]) (.t 6) (.t 6), none⟩,
  ⟨some 3, .mv (.t 7), none⟩])
 (.seq (.seq (.region 0 [⟨some 4, .mv (.c (.int .i64 0)), none⟩])
 (.block 0 (.loop ⟨[0, 4], [(3, 2)], []⟩ laws_toWriteS_b0)))
 laws_toWriteS_r0)))
noncomputable def laws_toWriteS_l0 (E : Env) (x0 : U) (x4 : U) (c3 : List U) : Option U := loopK (roundOf E ⟨[0, 4], [(3, 2)], []⟩ laws_toWriteS_b0 (blockK 0 (seqK (fun s => exec E laws_toWriteS_r0 s (finish [(2, none)])) (finish [(2, none)])))) ([.val x0, .val x4], [.arr 2 c3])
theorem laws_toWriteS_eq (E : Env) (a0 : U) : run E laws_toWriteS_ac [(2, none)] [a0] =
 (U.lenOf false a0).bind fun n1 => if 0 ≤ (n1 : Int) ∧ (n1 : Int) ≤ (n1 : Int) ∧ (n1 : Int) * 16 ≤ 140737488355328 ∧ ((.agg [(.int .i64 0), (.int .i64 0)]) : U).size = 2 then laws_toWriteS_l0 E a0 (.int .i64 0) (List.replicate ((n1 : Int) : Int).toNat (.agg [(.int .i64 0), (.int .i64 0)])) else none := by kernel_rfl
theorem laws_toWriteS_l0_eq (E : Env) (x0 : U) (x4 : U) (c3 : List U) : laws_toWriteS_l0 E x0 x4 c3 =
 (U.lenOf false x0).bind fun n2 => (U.bin .lss x4 (.int .i64 (n2 : Int))).bind fun t3 => U.asBool t3
 (U.asInt x4 fun n4 => U.elemAt 2 x0 n4 fun e5 => U.asVar true 2 e5 fun e6 => (E 30 [e6]).bind fun t7 => U.asInt x4 fun n8 => if 2 = 2 ∧ 2 = 2 ∧ 0 ≤ n8 ∧ n8 < ((c3).length : Int) then if storable (.val t7) = true ∧ t7.size = 2 then if 2 = 2 then (c3[(n8 : Int).toNat]?).bind fun e9 => if e9.size = 2 then (U.bin .add x4 (.int .i64 1)).bind fun t10 => laws_toWriteS_l0 E x0 t10 (c3.set (n8 : Int).toNat t7) else none else none else none else none)
 (some (.sl 2 c3)) :=
 (loop_eq E _ _ _ _).trans (by kernel_rfl)

/-- In the environment E: this function and those that it calls. -/
structure G_laws_toWriteS (E : Env) : Prop where
  is : Is E 27 1 laws_toWriteS_ac [(2, none)]
  c_laws_toWrite : G_laws_toWrite E
theorem laws_toWriteS_E {E : Env} (h : G_laws_toWriteS E) (a0 : U) : E 27 [a0] =
 (U.lenOf false a0).bind fun n1 => if 0 ≤ (n1 : Int) ∧ (n1 : Int) ≤ (n1 : Int) ∧ (n1 : Int) * 16 ≤ 140737488355328 ∧ ((.agg [(.int .i64 0), (.int .i64 0)]) : U).size = 2 then laws_toWriteS_l0 E a0 (.int .i64 0) (List.replicate ((n1 : Int) : Int).toNat (.agg [(.int .i64 0), (.int .i64 0)])) else none := (h.is _ rfl).trans (laws_toWriteS_eq E a0)

end Go.Proofs.Ytmebdbagcbgddaa.Am
namespace Go.Proofs.Ytmebdbagcbgddaa.Am
open Go
set_option linter.unusedVariables false
set_option maxRecDepth 100000

/- loop.example/g01924/laws.toEntry -/
def laws_toEntry_ac : AC :=
 (.seq (.region 0 [⟨some 1, .box false (.t 0), none⟩,
  ⟨some 2, .alloc (.agg [(.int .i64 0), (.int .i64 0), (.nsl 2), (.nsl 2)]), none⟩])
 (.seq (.region 0 [⟨some 3, .alloc (.agg [(.int .i64 0), (.int .i64 0), (.nsl 2), (.nsl 2)]), none⟩])
 (.seq (.region 0 [⟨some 4, .faddr 0 0 (.t 1), none⟩,
  ⟨some 5, .load false 1 (.t 4), none⟩,
  ⟨some 6, .faddr 0 0 (.t 3), none⟩,
  ⟨none, .store 1 (.t 6) (.t 5), none⟩])
 (.seq (.region 0 [⟨some 7, .faddr 1 1 (.t 1), none⟩,
  ⟨some 8, .load false 1 (.t 7), none⟩,
  ⟨some 9, .faddr 1 1 (.t 3), none⟩,
  ⟨none, .store 1 (.t 9) (.t 8), none⟩])
 (.seq (.region 0 [⟨some 10, .faddr 2 2 (.t 1), none⟩,
  ⟨some 11, .load false 1 (.t 10), none⟩,
  ⟨some 12, .call false 28 [(.t 11)], none⟩,
  ⟨some 13, .faddr 2 2 (.t 3), none⟩,
  ⟨none, .store 1 (.t 13) (.t 12), none⟩])
 (.seq (.region 0 [⟨some 14, .faddr 3 3 (.t 1), none⟩,
  ⟨some 15, .load false 1 (.t 14), none⟩,
  ⟨some 16, .call false 27 [(.t 15)], none⟩,
  ⟨some 17, .faddr 3 3 (.t 3), none⟩,
  ⟨none, .store 1 (.t 17) (.t 16), none⟩])
 (.seq (.region 0 [⟨some 18, .load true 4 (.t 3), none⟩,
  ⟨none, .store 4 (.t 2) (.t 18), none⟩])
 .ret)))))))

theorem laws_toEntry_eq (E : Env) (a0 : U) : run E laws_toEntry_ac [(2, some (true, 4))] [a0] =
 U.noTup a0 fun x1 => U.asAgg x1 fun us2 => if 0 = sizes (us2.take 0) then (us2[0]?).bind fun e3 => U.asVar false 1 e3 fun e4 => if storable (.val e4) = true ∧ e4.size = 1 then U.asAgg x1 fun us5 => if 1 = sizes (us5.take 1) then (us5[1]?).bind fun e6 => U.asVar false 1 e6 fun e7 => if storable (.val e7) = true ∧ e7.size = 1 then if 1 = sizes [e4] then U.asAgg x1 fun us8 => if 2 = sizes (us8.take 2) then (us8[2]?).bind fun e9 => U.asVar false 1 e9 fun e10 => (E 28 [e10]).bind fun t11 => if storable (.val t11) = true ∧ t11.size = 1 then if 2 = sizes [e4, e7] then U.asAgg x1 fun us12 => if 3 = sizes (us12.take 3) then (us12[3]?).bind fun e13 => U.asVar false 1 e13 fun e14 => (E 27 [e14]).bind fun t15 => if storable (.val t15) = true ∧ t15.size = 1 then if 3 = sizes [e4, e7, t11] then U.asVar true 4 (.agg [e4, e7, t11, t15]) fun e16 => if storable (.val e16) = true ∧ e16.size = 4 then U.asVar true 4 e16 fun e17 => some e17 else none else none else none else none else none else none else none else none else none else none else none else none := by kernel_rfl

/-- In the environment E: this function and those that it calls. -/
structure G_laws_toEntry (E : Env) : Prop where
  is : Is E 51 1 laws_toEntry_ac [(2, some (true, 4))]
  c_laws_toReadMarkS : G_laws_toReadMarkS E
  c_laws_toWriteS : G_laws_toWriteS E
theorem laws_toEntry_E {E : Env} (h : G_laws_toEntry E) (a0 : U) : E 51 [a0] =
 U.noTup a0 fun x1 => U.asAgg x1 fun us2 => if 0 = sizes (us2.take 0) then (us2[0]?).bind fun e3 => U.asVar false 1 e3 fun e4 => if storable (.val e4) = true ∧ e4.size = 1 then U.asAgg x1 fun us5 => if 1 = sizes (us5.take 1) then (us5[1]?).bind fun e6 => U.asVar false 1 e6 fun e7 => if storable (.val e7) = true ∧ e7.size = 1 then if 1 = sizes [e4] then U.asAgg x1 fun us8 => if 2 = sizes (us8.take 2) then (us8[2]?).bind fun e9 => U.asVar false 1 e9 fun e10 => (E 28 [e10]).bind fun t11 => if storable (.val t11) = true ∧ t11.size = 1 then if 2 = sizes [e4, e7] then U.asAgg x1 fun us12 => if 3 = sizes (us12.take 3) then (us12[3]?).bind fun e13 => U.asVar false 1 e13 fun e14 => (E 27 [e14]).bind fun t15 => if storable (.val t15) = true ∧ t15.size = 1 then if 3 = sizes [e4, e7, t11] then U.asVar true 4 (.agg [e4, e7, t11, t15]) fun e16 => if storable (.val e16) = true ∧ e16.size = 4 then U.asVar true 4 e16 fun e17 => some e17 else none else none else none else none else none else none else none else none else none else none else none else none := (h.is _ rfl).trans (laws_toEntry_eq E a0)

end Go.Proofs.Ytmebdbagcbgddaa.Am
namespace Go.Proofs.Ytmebdbagcbgddaa.Am
open Go
set_option linter.unusedVariables false
set_option maxRecDepth 100000

/- loop.example/g01924/laws.toEntryS -/
def laws_toEntryS_b0 : AC :=
 (.seq (.seq (.region 0 [⟨some 8, .mv (.t 4), none⟩,
  ⟨some 9, .mv (.t 0), none⟩,
  ⟨some 10, .len false (.t 9), none⟩,
  ⟨some 11, .bin .lss (.t 8) (.t 10), none⟩])
 (.cond (.t 11) .skip (.exit 0)))
 (.seq (.block 1 (.region 0 [⟨some 14, .mv (.t 3), none⟩,
  ⟨some 15, .mv (.t 4), none⟩,
  ⟨some 16, .mv (.t 0), none⟩,
  ⟨some 17, .mv (.t 4), none⟩,
  ⟨some 18, .iaddr 4 (.t 16) (.t 17), none⟩,
  ⟨some 19, .load true 4 (.t 18), none⟩,
  ⟨some 20, .call false 51 [(.t 19)], none⟩,
  ⟨some 21, .iaddr 4 (.t 14) (.t 15), none⟩,
  ⟨none, .store 4 (.t 21) (.t 20), none⟩]))
 (.region 0 [⟨some 12, .mv (.t 4), none⟩,
  ⟨some 13, .bin .add (.t 12) (.c (.int .i64 1)), none⟩,
  ⟨some 4, .mv (.t 13), none⟩])))
def laws_toEntryS_r0 : AC :=
 (.seq (.region 0 [⟨some 22, .mv (.t 3), none⟩,
  ⟨some 2, .mv (.t 22), none⟩])
 .ret)
def laws_toEntryS_ac : AC :=
 (.seq (.region 0 [⟨some 2, .mv (.c (.nsl 4)), none⟩])
 (.seq (.region 0 [⟨some 5, .mv (.t 0), none⟩,
  ⟨some 6, .len false (.t 5), none⟩,
  ⟨some 7, .mkslice 4 64 (.agg [(.int .i64 0), (.int .i64 0), (.nsl 2), (.nsl 2)]) (.t 6) (.t 6), none⟩,
  ⟨some 3, .mv (.t 7), none⟩])
 (.seq (.seq (.region 0 [⟨some 4, .mv (.c (.int .i64 0)), none⟩])
 (.block 0 (.loop ⟨[0, 4], [(3, 4)], []⟩ laws_toEntryS_b0)))
 laws_toEntryS_r0)))
noncomputable def laws_toEntryS_l0 (E : Env) (x0 : U) (x4 : U) (c3 : List U) : Option U := loopK (roundOf E ⟨[0, 4], [(3, 4)], []⟩ laws_toEntryS_b0 (blockK 0 (seqK (fun s => exec E laws_toEntryS_r0 s (finish [(2, none)])) (finish [(2, none)])))) ([.val x0, .val x4], [.arr 4 c3])
theorem laws_toEntryS_eq (E : Env) (a0 : U) : run E laws_toEntryS_ac [(2, none)] [a0] =
 (U.lenOf false a0).bind fun n1 => if 0 ≤ (n1 : Int) ∧ (n1 : Int) ≤ (n1 : Int) ∧ (n1 : Int) * 64 ≤ 140737488355328 ∧ ((.agg [(.int .i64 0), (.int .i64 0), (.nsl 2), (.nsl 2)]) : U).size = 4 then laws_toEntryS_l0 E a0 (.int .i64 0) (List.replicate ((n1 : Int) : Int).toNat (.agg [(.int .i64 0), (.int .i64 0), (.nsl 2), (.nsl 2)])) else none := by kernel_rfl
theorem laws_toEntryS_l0_eq (E : Env) (x0 : U) (x4 : U) (c3 : List U) : laws_toEntryS_l0 E x0 x4 c3 =
 (U.lenOf false x0).bind fun n2 => (U.bin .lss x4 (.int .i64 (n2 : Int))).bind fun t3 => U.asBool t3
 (U.asInt x4 fun n4 => U.elemAt 4 x0 n4 fun e5 => U.asVar true 4 e5 fun e6 => (E 51 [e6]).bind fun t7 => U.asInt x4 fun n8 => if 4 = 4 ∧ 4 = 4 ∧ 0 ≤ n8 ∧ n8 < ((c3).length : Int) then if storable (.val t7) = true ∧ t7.size = 4 then if 4 = 4 then (c3[(n8 : Int).toNat]?).bind fun e9 => if e9.size = 4 then (U.bin .add x4 (.int .i64 1)).bind fun t10 => laws_toEntryS_l0 E x0 t10 (c3.set (n8 : Int).toNat t7) else none else none else none else none)
 (some (.sl 4 c3)) :=
 (loop_eq E _ _ _ _).trans (by kernel_rfl)

/-- In the environment E: this function and those that it calls. -/
structure G_laws_toEntryS (E : Env) : Prop where
  is : Is E 45 1 laws_toEntryS_ac [(2, none)]
  c_laws_toEntry : G_laws_toEntry E
theorem laws_toEntryS_E {E : Env} (h : G_laws_toEntryS E) (a0 : U) : E 45 [a0] =
 (U.lenOf false a0).bind fun n1 => if 0 ≤ (n1 : Int) ∧ (n1 : Int) ≤ (n1 : Int) ∧ (n1 : Int) * 64 ≤ 140737488355328 ∧ ((.agg [(.int .i64 0), (.int .i64 0), (.nsl 2), (.nsl 2)]) : U).size = 4 then laws_toEntryS_l0 E a0 (.int .i64 0) (List.replicate ((n1 : Int) : Int).toNat (.agg [(.int .i64 0), (.int .i64 0), (.nsl 2), (.nsl 2)])) else none := (h.is _ rfl).trans (laws_toEntryS_eq E a0)

end Go.Proofs.Ytmebdbagcbgddaa.Am
namespace Go.Proofs.Ytmebdbagcbgddaa.Am
open Go
set_option linter.unusedVariables false
set_option maxRecDepth 100000

/- slices.IndexFunc[[]loop.example/g01924/impl.Write,loop.example/g01924/impl.Write] -/
def slices_IndexFunc_g55_b0 : AC :=
 (.seq (.region 0 [⟨some 9, .bin .lss (.t 8) (.t 7), none⟩])
 (.seq (.cond (.t 9) .skip (.exit 0))
 (.seq (.block 1 (.seq (.region 0 [⟨some 10, .mv (.t 8), none⟩,
  ⟨some 5, .mv (.t 10), none⟩])
 (.seq (.region 0 [⟨some 11, .mv (.t 1), none⟩,
  ⟨some 12, .mv (.t 0), none⟩,
  ⟨some 13, .mv (.t 5), none⟩,
  ⟨some 14, .iaddr 2 (.t 12) (.t 13), none⟩,
  ⟨some 15, .load true 2 (.t 14), none⟩,
  ⟨some 16, .callv false (.t 11) [(.t 15)], none⟩])
 (.cond (.t 16) (.seq (.region 0 [⟨some 17, .mv (.t 5), none⟩,
  ⟨some 4, .mv (.t 17), none⟩])
 .ret) .skip))))
 (.region 0 [⟨some 18, .bin .add (.t 8) (.c (.int .i64 1)), none⟩,
  ⟨some 8, .mv (.t 18), none⟩]))))
def slices_IndexFunc_g55_r0 : AC :=
 (.seq (.region 0 [⟨some 4, .mv (.c (.int .i64 (-1))), none⟩])
 .ret)
def slices_IndexFunc_g55_ac : AC :=
 (.seq (.region 0 [⟨some 4, .mv (.c (.int .i64 0)), none⟩])
 (.seq (.seq (.region 0 [⟨some 6, .mv (.t 0), none⟩,
  ⟨some 7, .len false (.t 6), none⟩,
  ⟨some 8, .mv (.c (.int .i64 0)), none⟩])
 (.block 0 (.loop ⟨[0, 1, 7, 8], [], []⟩ slices_IndexFunc_g55_b0)))
 slices_IndexFunc_g55_r0))
noncomputable def slices_IndexFunc_g55_l0 (E : Env) (x0 : U) (x1 : U) (x7 : U) (x8 : U) : Option U := loopK (roundOf E ⟨[0, 1, 7, 8], [], []⟩ slices_IndexFunc_g55_b0 (blockK 0 (seqK (fun s => exec E slices_IndexFunc_g55_r0 s (finish [(4, none)])) (finish [(4, none)])))) ([.val x0, .val x1, .val x7, .val x8], [])
theorem slices_IndexFunc_g55_eq (E : Env) (a0 : U) (a1 : U) : run E slices_IndexFunc_g55_ac [(4, none)] [a0, a1] =
 (U.lenOf false a0).bind fun n1 => slices_IndexFunc_g55_l0 E a0 a1 (.int .i64 (n1 : Int)) (.int .i64 0) := by kernel_rfl
theorem slices_IndexFunc_g55_l0_eq (E : Env) (x0 : U) (x1 : U) (x7 : U) (x8 : U) : slices_IndexFunc_g55_l0 E x0 x1 x7 x8 =
 (U.bin .lss x8 x7).bind fun t2 => U.asBool t2
 (U.asInt x8 fun n3 => U.elemAt 2 x0 n3 fun e4 => U.asVar true 2 e4 fun e5 => U.asFn x1 fun r6 caps7 => (E r6 ([e5] ++ caps7)).bind fun t8 => U.asBool t8
 (some x8)
 ((U.bin .add x8 (.int .i64 1)).bind fun t9 => slices_IndexFunc_g55_l0 E x0 x1 x7 t9))
 (some (.int .i64 (-1))) :=
 (loop_eq E _ _ _ _).trans (by kernel_rfl)

/-- In the environment E: this function and those that it calls. -/
structure G_slices_IndexFunc_g55 (E : Env) : Prop where
  is : Is E 55 2 slices_IndexFunc_g55_ac [(4, none)]
theorem slices_IndexFunc_g55_E {E : Env} (h : G_slices_IndexFunc_g55 E) (a0 a1 : U) : E 55 [a0, a1] =
 (U.lenOf false a0).bind fun n1 => slices_IndexFunc_g55_l0 E a0 a1 (.int .i64 (n1 : Int)) (.int .i64 0) := (h.is _ rfl).trans (slices_IndexFunc_g55_eq E a0 a1)

end Go.Proofs.Ytmebdbagcbgddaa.Am
namespace Go.Proofs.Ytmebdbagcbgddaa.Am
open Go
set_option linter.unusedVariables false
set_option maxRecDepth 100000

/- slices.ContainsFunc[[]loop.example/g01924/impl.Write,loop.example/g01924/impl.Write] -/
def slices_ContainsFunc_g54_ac : AC :=
 (.seq (.region 0 [⟨some 4, .mv (.c (.bool false)), none⟩])
 (.seq (.region 0 [⟨some 5, .mv (.t 0), none⟩,
  ⟨some 6, .mv (.t 1), none⟩,
  ⟨some 7, .call false 55 [(.t 5), (.t 6)], none⟩,
  ⟨some 8, .bin .geq (.t 7) (.c (.int .i64 0)), none⟩,
  ⟨some 4, .mv (.t 8), none⟩])
 .ret))

theorem slices_ContainsFunc_g54_eq (E : Env) (a0 : U) (a1 : U) : run E slices_ContainsFunc_g54_ac [(4, none)] [a0, a1] =
 (E 55 [a0, a1]).bind fun t1 => (U.bin .geq t1 (.int .i64 0)).bind fun t2 => some t2 := by kernel_rfl

/-- In the environment E: this function and those that it calls. -/
structure G_slices_ContainsFunc_g54 (E : Env) : Prop where
  is : Is E 54 2 slices_ContainsFunc_g54_ac [(4, none)]
  c_slices_IndexFunc_g55 : G_slices_IndexFunc_g55 E
theorem slices_ContainsFunc_g54_E {E : Env} (h : G_slices_ContainsFunc_g54 E) (a0 a1 : U) : E 54 [a0, a1] =
 (E 55 [a0, a1]).bind fun t1 => (U.bin .geq t1 (.int .i64 0)).bind fun t2 => some t2 := (h.is _ rfl).trans (slices_ContainsFunc_g54_eq E a0 a1)

end Go.Proofs.Ytmebdbagcbgddaa.Am
namespace Go.Proofs.Ytmebdbagcbgddaa.Am
open Go
set_option linter.unusedVariables false
set_option maxRecDepth 100000

/- (loop.example/g01924/impl.Entry).writes$1 -/
def impl_Entry_writes_1_ac : AC :=
 (.seq (.region 0 [⟨some 2, .box false (.t 0), none⟩,
  ⟨some 3, .mv (.c (.bool false)), none⟩])
 (.seq (.region 0 [⟨some 4, .faddr 0 0 (.t 2), none⟩,
  ⟨some 5, .load false 1 (.t 4), none⟩,
  ⟨some 6, .load false 1 (.t 1), none⟩,
  ⟨some 7, .bin .eql (.t 5) (.t 6), none⟩,
  ⟨some 3, .mv (.t 7), none⟩])
 .ret))

theorem impl_Entry_writes_1_eq (E : Env) (a0 : U) (a1 : U) : run E impl_Entry_writes_1_ac [(3, none)] [a0, a1] =
 U.noTup a0 fun x1 => U.asAgg x1 fun us2 => if 0 = sizes (us2.take 0) then (us2[0]?).bind fun e3 => U.asVar false 1 e3 fun e4 => U.asVp a1 fun v5 => U.asVar false 1 v5 fun e6 => (U.bin .eql e4 e6).bind fun t7 => some t7 else none := by kernel_rfl

/-- In the environment E: this function and those that it calls. -/
structure G_impl_Entry_writes_1 (E : Env) : Prop where
  is : Is E 53 2 impl_Entry_writes_1_ac [(3, none)]
theorem impl_Entry_writes_1_E {E : Env} (h : G_impl_Entry_writes_1 E) (a0 a1 : U) : E 53 [a0, a1] =
 U.noTup a0 fun x1 => U.asAgg x1 fun us2 => if 0 = sizes (us2.take 0) then (us2[0]?).bind fun e3 => U.asVar false 1 e3 fun e4 => U.asVp a1 fun v5 => U.asVar false 1 v5 fun e6 => (U.bin .eql e4 e6).bind fun t7 => some t7 else none := (h.is _ rfl).trans (impl_Entry_writes_1_eq E a0 a1)

end Go.Proofs.Ytmebdbagcbgddaa.Am
namespace Go.Proofs.Ytmebdbagcbgddaa.Am
open Go
set_option linter.unusedVariables false
set_option maxRecDepth 100000

/- (loop.example/g01924/impl.Entry).writes -/
def impl_Entry_writes_ac : AC :=
 (.seq (.region 0 [⟨some 2, .box false (.t 0), none⟩,
  ⟨some 3, .box true (.t 1), none⟩,
  ⟨some 4, .mv (.c (.bool false)), none⟩])
 (.seq (.region 0 [⟨some 5, .faddr 3 3 (.t 2), none⟩,
  ⟨some 6, .load false 1 (.t 5), none⟩,
  ⟨some 7, .mkfn 53 [(.t 3)], none⟩,
  ⟨some 8, .call false 54 [(.t 6), (.t 7)], none⟩,
  ⟨some 4, .mv (.t 8), none⟩])
 .ret))

theorem impl_Entry_writes_eq (E : Env) (a0 : U) (a1 : U) : run E impl_Entry_writes_ac [(4, none)] [a0, a1] =
 U.noTup a0 fun x1 => U.noTup a1 fun x2 => U.asAgg x1 fun us3 => if 3 = sizes (us3.take 3) then (us3[3]?).bind fun e4 => U.asVar false 1 e4 fun e5 => (E 54 [e5, (.fn 53 [(.vp x2)])]).bind fun t6 => U.asFlat t6 fun t7 => some t7 else none := by kernel_rfl

/-- In the environment E: this function and those that it calls. -/
structure G_impl_Entry_writes (E : Env) : Prop where
  is : Is E 52 2 impl_Entry_writes_ac [(4, none)]
  c_slices_ContainsFunc_g54 : G_slices_ContainsFunc_g54 E
  c_impl_Entry_writes_1 : G_impl_Entry_writes_1 E
theorem impl_Entry_writes_E {E : Env} (h : G_impl_Entry_writes E) (a0 a1 : U) : E 52 [a0, a1] =
 U.noTup a0 fun x1 => U.noTup a1 fun x2 => U.asAgg x1 fun us3 => if 3 = sizes (us3.take 3) then (us3[3]?).bind fun e4 => U.asVar false 1 e4 fun e5 => (E 54 [e5, (.fn 53 [(.vp x2)])]).bind fun t6 => U.asFlat t6 fun t7 => some t7 else none := (h.is _ rfl).trans (impl_Entry_writes_eq E a0 a1)

end Go.Proofs.Ytmebdbagcbgddaa.Am
namespace Go.Proofs.Ytmebdbagcbgddaa.Am
open Go
set_option linter.unusedVariables false
set_option maxRecDepth 100000

/- loop.example/g01924/impl.NextWriter -/
def impl_NextWriter_b0 : AC :=
 (.seq (.region 0 [⟨some 15, .bin .lss (.t 14) (.t 13), none⟩])
 (.seq (.cond (.t 15) .skip (.exit 0))
 (.seq (.block 1 (.seq (.region 0 [⟨some 16, .iaddr 4 (.t 12) (.t 14), none⟩,
  ⟨some 17, .load true 4 (.t 16), none⟩,
  ⟨some 11, .alloc (.agg [(.int .i64 0), (.int .i64 0), (.nsl 2), (.nsl 2)]), none⟩,
  ⟨none, .store 4 (.t 11) (.t 17), none⟩])
 (.seq (.region 0 [⟨some 18, .faddr 1 1 (.t 11), none⟩,
  ⟨some 19, .load false 1 (.t 18), none⟩,
  ⟨some 20, .mv (.t 2), none⟩,
  ⟨some 21, .bin .gtr (.t 19) (.t 20), none⟩,
  ⟨some 22, .mv (.t 21), none⟩,
  ⟨some 23, .load true 4 (.t 11), some (22, true)⟩,
  ⟨some 24, .mv (.t 1), some (22, true)⟩,
  ⟨some 25, .call false 52 [(.t 23), (.t 24)], some (22, true)⟩,
  ⟨some 26, .pick (.t 22) (.t 25) (.c (.bool false)), none⟩,
  ⟨some 27, .mv (.t 26), none⟩,
  ⟨some 28, .mv (.t 9), some (27, true)⟩,
  ⟨some 29, .un .not (.t 28), some (27, true)⟩,
  ⟨some 30, .mv (.t 29), some (27, true)⟩,
  ⟨some 31, .faddr 1 1 (.t 11), some (30, false)⟩,
  ⟨some 32, .load false 1 (.t 31), some (30, false)⟩,
  ⟨some 33, .mv (.t 8), some (30, false)⟩,
  ⟨some 34, .bin .lss (.t 32) (.t 33), some (30, false)⟩,
  ⟨some 35, .pick (.t 30) (.c (.bool true)) (.t 34), some (27, true)⟩,
  ⟨some 36, .pick (.t 27) (.t 35) (.c (.bool false)), none⟩])
 (.cond (.t 36) (.region 7 [⟨some 37, .faddr 0 0 (.t 11), none⟩,
  ⟨some 38, .load false 1 (.t 37), none⟩,
  ⟨some 39, .faddr 1 1 (.t 11), none⟩,
  ⟨some 40, .load false 1 (.t 39), none⟩,
  ⟨some 7, .mv (.t 38), none⟩,
  ⟨some 8, .mv (.t 40), none⟩,
  ⟨some 9, .mv (.c (.bool true)), none⟩]) .skip))))
 (.region 0 [⟨some 41, .bin .add (.t 14) (.c (.int .i64 1)), none⟩,
  ⟨some 14, .mv (.t 41), none⟩]))))
def impl_NextWriter_r0 : AC :=
 (.seq (.region 0 [⟨some 42, .mv (.t 7), none⟩,
  ⟨some 6, .mv (.t 42), none⟩])
 .ret)
def impl_NextWriter_ac : AC :=
 (.seq (.region 0 [⟨some 6, .mv (.c (.int .i64 0)), none⟩])
 (.seq (.region 0 [⟨some 7, .mv (.c (.int .i64 0)), none⟩,
  ⟨some 8, .mv (.c (.int .i64 0)), none⟩,
  ⟨some 9, .mv (.c (.bool false)), none⟩])
 (.seq (.seq (.region 0 [⟨some 12, .mv (.t 0), none⟩,
  ⟨some 13, .len false (.t 12), none⟩,
  ⟨some 14, .mv (.c (.int .i64 0)), none⟩])
 (.block 0 (.loop ⟨[1, 2, 7, 8, 9, 12, 13, 14], [], []⟩ impl_NextWriter_b0)))
 impl_NextWriter_r0)))
noncomputable def impl_NextWriter_l0 (E : Env) (x1 : U) (x2 : U) (x7 : U) (x8 : U) (x9 : U) (x12 : U) (x13 : U) (x14 : U) : Option U := loopK (roundOf E ⟨[1, 2, 7, 8, 9, 12, 13, 14], [], []⟩ impl_NextWriter_b0 (blockK 0 (seqK (fun s => exec E impl_NextWriter_r0 s (finish [(6, none)])) (finish [(6, none)])))) ([.val x1, .val x2, .val x7, .val x8, .val x9, .val x12, .val x13, .val x14], [])
theorem impl_NextWriter_eq (E : Env) (a0 : U) (a1 : U) (a2 : U) : run E impl_NextWriter_ac [(6, none)] [a0, a1, a2] =
 (U.lenOf false a0).bind fun n1 => impl_NextWriter_l0 E a1 a2 (.int .i64 0) (.int .i64 0) (.bool false) a0 (.int .i64 (n1 : Int)) (.int .i64 0) := by kernel_rfl
theorem impl_NextWriter_l0_eq (E : Env) (x1 : U) (x2 : U) (x7 : U) (x8 : U) (x9 : U) (x12 : U) (x13 : U) (x14 : U) : impl_NextWriter_l0 E x1 x2 x7 x8 x9 x12 x13 x14 =
 (U.bin .lss x14 x13).bind fun t2 => U.asBool t2
 (U.asInt x14 fun n3 => U.elemAt 4 x12 n3 fun e4 => U.asVar true 4 e4 fun e5 => if storable (.val e5) = true ∧ e5.size = 4 then U.asAgg e5 fun us6 => if 1 = sizes (us6.take 1) then (us6[1]?).bind fun e7 => U.asVar false 1 e7 fun e8 => (U.bin .gtr e8 x2).bind fun t9 => U.asBool t9
 (U.asVar true 4 e5 fun e10 => (E 52 [e10, x1]).bind fun t11 => U.asBool t11
 ((U.un .not x9).bind fun t12 => U.asBool t12
 (U.asAgg e5 fun us13 => if 0 = sizes (us13.take 0) then (us13[0]?).bind fun e14 => U.asVar false 1 e14 fun e15 => U.asAgg e5 fun us16 => if 1 = sizes (us16.take 1) then (us16[1]?).bind fun e17 => U.asVar false 1 e17 fun e18 => (U.bin .add x14 (.int .i64 1)).bind fun t19 => impl_NextWriter_l0 E x1 x2 e15 e18 (.bool true) x12 x13 t19 else none else none)
 (U.asAgg e5 fun us20 => if 1 = sizes (us20.take 1) then (us20[1]?).bind fun e21 => U.asVar false 1 e21 fun e22 => (U.bin .lss e22 x8).bind fun t23 => U.asBool t23
 (U.asAgg e5 fun us24 => if 0 = sizes (us24.take 0) then (us24[0]?).bind fun e25 => U.asVar false 1 e25 fun e26 => U.asAgg e5 fun us27 => if 1 = sizes (us27.take 1) then (us27[1]?).bind fun e28 => U.asVar false 1 e28 fun e29 => (U.bin .add x14 (.int .i64 1)).bind fun t30 => impl_NextWriter_l0 E x1 x2 e26 e29 (.bool true) x12 x13 t30 else none else none)
 ((U.bin .add x14 (.int .i64 1)).bind fun t31 => impl_NextWriter_l0 E x1 x2 x7 x8 x9 x12 x13 t31) else none))
 ((U.bin .add x14 (.int .i64 1)).bind fun t32 => impl_NextWriter_l0 E x1 x2 x7 x8 x9 x12 x13 t32))
 ((U.bin .add x14 (.int .i64 1)).bind fun t33 => impl_NextWriter_l0 E x1 x2 x7 x8 x9 x12 x13 t33) else none else none)
 (some x7) :=
 (loop_eq E _ _ _ _).trans (by kernel_rfl)

/-- In the environment E: this function and those that it calls. -/
structure G_impl_NextWriter (E : Env) : Prop where
  is : Is E 47 3 impl_NextWriter_ac [(6, none)]
  c_impl_Entry_writes : G_impl_Entry_writes E
theorem impl_NextWriter_E {E : Env} (h : G_impl_NextWriter E) (a0 a1 a2 : U) : E 47 [a0, a1, a2] =
 (U.lenOf false a0).bind fun n1 => impl_NextWriter_l0 E a1 a2 (.int .i64 0) (.int .i64 0) (.bool false) a0 (.int .i64 (n1 : Int)) (.int .i64 0) := (h.is _ rfl).trans (impl_NextWriter_eq E a0 a1 a2)

end Go.Proofs.Ytmebdbagcbgddaa.Am
namespace Go.Proofs.Ytmebdbagcbgddaa.Am
open Go
set_option linter.unusedVariables false
set_option maxRecDepth 100000

/- loop.example/g01924/laws.eqReadMark -/
def laws_eqReadMark_ac : AC :=
 (.seq (.region 0 [⟨some 2, .box false (.t 0), none⟩,
  ⟨some 3, .box false (.t 1), none⟩,
  ⟨some 4, .mv (.c (.bool false)), none⟩])
 (.seq (.seq (.region 0 [⟨some 5, .faddr 0 0 (.t 2), none⟩,
  ⟨some 6, .load false 1 (.t 5), none⟩,
  ⟨some 7, .faddr 0 0 (.t 3), none⟩,
  ⟨some 8, .load false 1 (.t 7), none⟩,
  ⟨some 9, .bin .neq (.t 6) (.t 8), none⟩])
 (.cond (.t 9) (.seq (.region 0 [⟨some 4, .mv (.c (.bool false)), none⟩])
 .ret) .skip))
 (.seq (.seq (.region 0 [⟨some 10, .faddr 1 1 (.t 2), none⟩,
  ⟨some 11, .load false 1 (.t 10), none⟩,
  ⟨some 12, .faddr 1 1 (.t 3), none⟩,
  ⟨some 13, .load false 1 (.t 12), none⟩,
  ⟨some 14, .bin .neq (.t 11) (.t 13), none⟩])
 (.cond (.t 14) (.seq (.region 0 [⟨some 4, .mv (.c (.bool false)), none⟩])
 .ret) .skip))
 (.seq (.region 0 [⟨some 4, .mv (.c (.bool true)), none⟩])
 .ret))))

theorem laws_eqReadMark_eq (E : Env) (a0 : U) (a1 : U) : run E laws_eqReadMark_ac [(4, none)] [a0, a1] =
 U.noTup a0 fun x1 => U.noTup a1 fun x2 => U.asAgg x1 fun us3 => if 0 = sizes (us3.take 0) then (us3[0]?).bind fun e4 => U.asVar false 1 e4 fun e5 => U.asAgg x2 fun us6 => if 0 = sizes (us6.take 0) then (us6[0]?).bind fun e7 => U.asVar false 1 e7 fun e8 => (U.bin .neq e5 e8).bind fun t9 => U.asBool t9
 (some (.bool false))
 (U.asAgg x1 fun us10 => if 1 = sizes (us10.take 1) then (us10[1]?).bind fun e11 => U.asVar false 1 e11 fun e12 => U.asAgg x2 fun us13 => if 1 = sizes (us13.take 1) then (us13[1]?).bind fun e14 => U.asVar false 1 e14 fun e15 => (U.bin .neq e12 e15).bind fun t16 => U.asBool t16
 (some (.bool false))
 (some (.bool true)) else none else none) else none else none := by kernel_rfl

/-- In the environment E: this function and those that it calls. -/
structure G_laws_eqReadMark (E : Env) : Prop where
  is : Is E 35 2 laws_eqReadMark_ac [(4, none)]
theorem laws_eqReadMark_E {E : Env} (h : G_laws_eqReadMark E) (a0 a1 : U) : E 35 [a0, a1] =
 U.noTup a0 fun x1 => U.noTup a1 fun x2 => U.asAgg x1 fun us3 => if 0 = sizes (us3.take 0) then (us3[0]?).bind fun e4 => U.asVar false 1 e4 fun e5 => U.asAgg x2 fun us6 => if 0 = sizes (us6.take 0) then (us6[0]?).bind fun e7 => U.asVar false 1 e7 fun e8 => (U.bin .neq e5 e8).bind fun t9 => U.asBool t9
 (some (.bool false))
 (U.asAgg x1 fun us10 => if 1 = sizes (us10.take 1) then (us10[1]?).bind fun e11 => U.asVar false 1 e11 fun e12 => U.asAgg x2 fun us13 => if 1 = sizes (us13.take 1) then (us13[1]?).bind fun e14 => U.asVar false 1 e14 fun e15 => (U.bin .neq e12 e15).bind fun t16 => U.asBool t16
 (some (.bool false))
 (some (.bool true)) else none else none) else none else none := (h.is _ rfl).trans (laws_eqReadMark_eq E a0 a1)

end Go.Proofs.Ytmebdbagcbgddaa.Am
namespace Go.Proofs.Ytmebdbagcbgddaa.Am
open Go
set_option linter.unusedVariables false
set_option maxRecDepth 100000

/- loop.example/g01924/laws.eqReadMarkS -/
def laws_eqReadMarkS_b0 : AC :=
 (.seq (.seq (.region 0 [⟨some 11, .mv (.t 5), none⟩,
  ⟨some 12, .mv (.t 0), none⟩,
  ⟨some 13, .len false (.t 12), none⟩,
  ⟨some 14, .bin .lss (.t 11) (.t 13), none⟩])
 (.cond (.t 14) .skip (.exit 0)))
 (.seq (.block 1 (.seq (.region 10 [⟨some 17, .mv (.t 0), none⟩,
  ⟨some 18, .mv (.t 5), none⟩,
  ⟨some 19, .iaddr 2 (.t 17) (.t 18), none⟩,
  ⟨some 20, .load true 2 (.t 19), none⟩,
  ⟨some 21, .mv (.t 1), none⟩,
  ⟨some 22, .mv (.t 5), none⟩,
  ⟨some 23, .iaddr 2 (.t 21) (.t 22), none⟩,
  ⟨some 24, .load true 2 (.t 23), none⟩,
  ⟨some 25, .call false 35 [(.t 20), (.t 24)], none⟩,
  ⟨some 26, .un .not (.t 25), none⟩])
 (.cond (.t 26) (.seq (.region 0 [⟨some 4, .mv (.c (.bool false)), none⟩])
 .ret) .skip)))
 (.region 0 [⟨some 15, .mv (.t 5), none⟩,
  ⟨some 16, .bin .add (.t 15) (.c (.int .i64 1)), none⟩,
  ⟨some 5, .mv (.t 16), none⟩])))
def laws_eqReadMarkS_r0 : AC :=
 (.seq (.region 0 [⟨some 4, .mv (.c (.bool true)), none⟩])
 .ret)
def laws_eqReadMarkS_ac : AC :=
 (.seq (.region 0 [⟨some 4, .mv (.c (.bool false)), none⟩])
 (.seq (.seq (.region 0 [⟨some 6, .mv (.t 0), none⟩,
  ⟨some 7, .len false (.t 6), none⟩,
  ⟨some 8, .mv (.t 1), none⟩,
  ⟨some 9, .len false (.t 8), none⟩,
  ⟨some 10, .bin .neq (.t 7) (.t 9), none⟩])
 (.cond (.t 10) (.seq (.region 0 [⟨some 4, .mv (.c (.bool false)), none⟩])
 .ret) .skip))
 (.seq (.seq (.region 0 [⟨some 5, .mv (.c (.int .i64 0)), none⟩])
 (.block 0 (.loop ⟨[0, 1, 5], [], []⟩ laws_eqReadMarkS_b0)))
 laws_eqReadMarkS_r0)))
noncomputable def laws_eqReadMarkS_l0 (E : Env) (x0 : U) (x1 : U) (x5 : U) : Option U := loopK (roundOf E ⟨[0, 1, 5], [], []⟩ laws_eqReadMarkS_b0 (blockK 0 (seqK (fun s => exec E laws_eqReadMarkS_r0 s (finish [(4, none)])) (finish [(4, none)])))) ([.val x0, .val x1, .val x5], [])
theorem laws_eqReadMarkS_eq (E : Env) (a0 : U) (a1 : U) : run E laws_eqReadMarkS_ac [(4, none)] [a0, a1] =
 (U.lenOf false a0).bind fun n1 => (U.lenOf false a1).bind fun n2 => (U.bin .neq (.int .i64 (n1 : Int)) (.int .i64 (n2 : Int))).bind fun t3 => U.asBool t3
 (some (.bool false))
 (laws_eqReadMarkS_l0 E a0 a1 (.int .i64 0)) := by kernel_rfl
theorem laws_eqReadMarkS_l0_eq (E : Env) (x0 : U) (x1 : U) (x5 : U) : laws_eqReadMarkS_l0 E x0 x1 x5 =
 (U.lenOf false x0).bind fun n4 => (U.bin .lss x5 (.int .i64 (n4 : Int))).bind fun t5 => U.asBool t5
 (U.asInt x5 fun n6 => U.elemAt 2 x0 n6 fun e7 => U.asVar true 2 e7 fun e8 => U.asInt x5 fun n9 => U.elemAt 2 x1 n9 fun e10 => U.asVar true 2 e10 fun e11 => (E 35 [e8, e11]).bind fun t12 => (U.un .not t12).bind fun t13 => U.asBool t13
 (some (.bool false))
 ((U.bin .add x5 (.int .i64 1)).bind fun t14 => laws_eqReadMarkS_l0 E x0 x1 t14))
 (some (.bool true)) :=
 (loop_eq E _ _ _ _).trans (by kernel_rfl)

/-- In the environment E: this function and those that it calls. -/
structure G_laws_eqReadMarkS (E : Env) : Prop where
  is : Is E 34 2 laws_eqReadMarkS_ac [(4, none)]
  c_laws_eqReadMark : G_laws_eqReadMark E
theorem laws_eqReadMarkS_E {E : Env} (h : G_laws_eqReadMarkS E) (a0 a1 : U) : E 34 [a0, a1] =
 (U.lenOf false a0).bind fun n1 => (U.lenOf false a1).bind fun n2 => (U.bin .neq (.int .i64 (n1 : Int)) (.int .i64 (n2 : Int))).bind fun t3 => U.asBool t3
 (some (.bool false))
 (laws_eqReadMarkS_l0 E a0 a1 (.int .i64 0)) := (h.is _ rfl).trans (laws_eqReadMarkS_eq E a0 a1)

end Go.Proofs.Ytmebdbagcbgddaa.Am
namespace Go.Proofs.Ytmebdbagcbgddaa.Am
open Go
set_option linter.unusedVariables false
set_option maxRecDepth 100000

/- loop.example/g01924/laws.eqWrite -/
def laws_eqWrite_ac : AC :=
 (.seq (.region 0 [⟨some 2, .box false (.t 0), none⟩,
  ⟨some 3, .box false (.t 1), none⟩,
  ⟨some 4, .mv (.c (.bool false)), none⟩])
 (.seq (.seq (.region 0 [⟨some 5, .faddr 0 0 (.t 2), none⟩,
  ⟨some 6, .load false 1 (.t 5), none⟩,
  ⟨some 7, .faddr 0 0 (.t 3), none⟩,
  ⟨some 8, .load false 1 (.t 7), none⟩,
  ⟨some 9, .bin .neq (.t 6) (.t 8), none⟩])
 (.cond (.t 9) (.seq (.region 0 [⟨some 4, .mv (.c (.bool false)), none⟩])
 .ret) .skip))
 (.seq (.seq (.region 0 [⟨some 10, .faddr 1 1 (.t 2), none⟩,
  ⟨some 11, .load false 1 (.t 10), none⟩,
  ⟨some 12, .faddr 1 1 (.t 3), none⟩,
  ⟨some 13, .load false 1 (.t 12), none⟩,
  ⟨some 14, .bin .neq (.t 11) (.t 13), none⟩])
 (.cond (.t 14) (.seq (.region 0 [⟨some 4, .mv (.c (.bool false)), none⟩])
 .ret) .skip))
 (.seq (.region 0 [⟨some 4, .mv (.c (.bool true)), none⟩])
 .ret))))

theorem laws_eqWrite_eq (E : Env) (a0 : U) (a1 : U) : run E laws_eqWrite_ac [(4, none)] [a0, a1] =
 U.noTup a0 fun x1 => U.noTup a1 fun x2 => U.asAgg x1 fun us3 => if 0 = sizes (us3.take 0) then (us3[0]?).bind fun e4 => U.asVar false 1 e4 fun e5 => U.asAgg x2 fun us6 => if 0 = sizes (us6.take 0) then (us6[0]?).bind fun e7 => U.asVar false 1 e7 fun e8 => (U.bin .neq e5 e8).bind fun t9 => U.asBool t9
 (some (.bool false))
 (U.asAgg x1 fun us10 => if 1 = sizes (us10.take 1) then (us10[1]?).bind fun e11 => U.asVar false 1 e11 fun e12 => U.asAgg x2 fun us13 => if 1 = sizes (us13.take 1) then (us13[1]?).bind fun e14 => U.asVar false 1 e14 fun e15 => (U.bin .neq e12 e15).bind fun t16 => U.asBool t16
 (some (.bool false))
 (some (.bool true)) else none else none) else none else none := by kernel_rfl

/-- In the environment E: this function and those that it calls. -/
structure G_laws_eqWrite (E : Env) : Prop where
  is : Is E 36 2 laws_eqWrite_ac [(4, none)]
theorem laws_eqWrite_E {E : Env} (h : G_laws_eqWrite E) (a0 a1 : U) : E 36 [a0, a1] =
 U.noTup a0 fun x1 => U.noTup a1 fun x2 => U.asAgg x1 fun us3 => if 0 = sizes (us3.take 0) then (us3[0]?).bind fun e4 => U.asVar false 1 e4 fun e5 => U.asAgg x2 fun us6 => if 0 = sizes (us6.take 0) then (us6[0]?).bind fun e7 => U.asVar false 1 e7 fun e8 => (U.bin .neq e5 e8).bind fun t9 => U.asBool t9
 (some (.bool false))
 (U.asAgg x1 fun us10 => if 1 = sizes (us10.take 1) then (us10[1]?).bind fun e11 => U.asVar false 1 e11 fun e12 => U.asAgg x2 fun us13 => if 1 = sizes (us13.take 1) then (us13[1]?).bind fun e14 => U.asVar false 1 e14 fun e15 => (U.bin .neq e12 e15).bind fun t16 => U.asBool t16
 (some (.bool false))
 (some (.bool true)) else none else none) else none else none := (h.is _ rfl).trans (laws_eqWrite_eq E a0 a1)

end Go.Proofs.Ytmebdbagcbgddaa.Am
namespace Go.Proofs.Ytmebdbagcbgddaa.Am
open Go
set_option linter.unusedVariables false
set_option maxRecDepth 100000

/- loop.example/g01924/laws.eqWriteS -/
def laws_eqWriteS_b0 : AC :=
 (.seq (.seq (.region 0 [⟨some 11, .mv (.t 5), none⟩,
  ⟨some 12, .mv (.t 0), none⟩,
  ⟨some 13, .len false (.t 12), none⟩,
  ⟨some 14, .bin .lss (.t 11) (.t 13), none⟩])
 (.cond (.t 14) .skip (.exit 0)))
 (.seq (.block 1 (.seq (.region 10 [⟨some 17, .mv (.t 0), none⟩,
  ⟨some 18, .mv (.t 5), none⟩,
  ⟨some 19, .iaddr 2 (.t 17) (.t 18), none⟩,
  ⟨some 20, .load true 2 (.t 19), none⟩,
  ⟨some 21, .mv (.t 1), none⟩,
  ⟨some 22, .mv (.t 5), none⟩,
  ⟨some 23, .iaddr 2 (.t 21) (.t 22), none⟩,
  ⟨some 24, .load true 2 (.t 23), none⟩,
  ⟨some 25, .call false 36 [(.t 20), (.t 24)], none⟩,
  ⟨some 26, .un .not (.t 25), none⟩])
 (.cond (.t 26) (.seq (.region 0 [⟨some 4, .mv (.c (.bool false)), none⟩])
 .ret) .skip)))
 (.region 0 [⟨some 15, .mv (.t 5), none⟩,
  ⟨some 16, .bin .add (.t 15) (.c (.int .i64 1)), none⟩,
  ⟨some 5, .mv (.t 16), none⟩])))
def laws_eqWriteS_r0 : AC :=
 (.seq (.region 0 [⟨some 4, .mv (.c (.bool true)), none⟩])
 .ret)
def laws_eqWriteS_ac : AC :=
 (.seq (.region 0 [⟨some 4, .mv (.c (.bool false)), none⟩])
 (.seq (.seq (.region 0 [⟨some 6, .mv (.t 0), none⟩,
  ⟨some 7, .len false (.t 6), none⟩,
  ⟨some 8, .mv (.t 1), none⟩,
  ⟨some 9, .len false (.t 8), none⟩,
  ⟨some 10, .bin .neq (.t 7) (.t 9), none⟩])
 (.cond (.t 10) (.seq (.region 0 [⟨some 4, .mv (.c (.bool false)), none⟩])
 .ret) .skip))
 (.seq (.seq (.region 0 [⟨some 5, .mv (.c (.int .i64 0)), none⟩])
 (.block 0 (.loop ⟨[0, 1, 5], [], []⟩ laws_eqWriteS_b0)))
 laws_eqWriteS_r0)))
noncomputable def laws_eqWriteS_l0 (E : Env) (x0 : U) (x1 : U) (x5 : U) : Option U := loopK (roundOf E ⟨[0, 1, 5], [], []⟩ laws_eqWriteS_b0 (blockK 0 (seqK (fun s => exec E laws_eqWriteS_r0 s (finish [(4, none)])) (finish [(4, none)])))) ([.val x0, .val x1, .val x5], [])
theorem laws_eqWriteS_eq (E : Env) (a0 : U) (a1 : U) : run E laws_eqWriteS_ac [(4, none)] [a0, a1] =
 (U.lenOf false a0).bind fun n1 => (U.lenOf false a1).bind fun n2 => (U.bin .neq (.int .i64 (n1 : Int)) (.int .i64 (n2 : Int))).bind fun t3 => U.asBool t3
 (some (.bool false))
 (laws_eqWriteS_l0 E a0 a1 (.int .i64 0)) := by kernel_rfl
theorem laws_eqWriteS_l0_eq (E : Env) (x0 : U) (x1 : U) (x5 : U) : laws_eqWriteS_l0 E x0 x1 x5 =
 (U.lenOf false x0).bind fun n4 => (U.bin .lss x5 (.int .i64 (n4 : Int))).bind fun t5 => U.asBool t5
 (U.asInt x5 fun n6 => U.elemAt 2 x0 n6 fun e7 => U.asVar true 2 e7 fun e8 => U.asInt x5 fun n9 => U.elemAt 2 x1 n9 fun e10 => U.asVar true 2 e10 fun e11 => (E 36 [e8, e11]).bind fun t12 => (U.un .not t12).bind fun t13 => U.asBool t13
 (some (.bool false))
 ((U.bin .add x5 (.int .i64 1)).bind fun t14 => laws_eqWriteS_l0 E x0 x1 t14))
 (some (.bool true)) :=
 (loop_eq E _ _ _ _).trans (by kernel_rfl)

/-- In the environment E: this function and those that it calls. -/
structure G_laws_eqWriteS (E : Env) : Prop where
  is : Is E 33 2 laws_eqWriteS_ac [(4, none)]
  c_laws_eqWrite : G_laws_eqWrite E
theorem laws_eqWriteS_E {E : Env} (h : G_laws_eqWriteS E) (a0 a1 : U) : E 33 [a0, a1] =
 (U.lenOf false a0).bind fun n1 => (U.lenOf false a1).bind fun n2 => (U.bin .neq (.int .i64 (n1 : Int)) (.int .i64 (n2 : Int))).bind fun t3 => U.asBool t3
 (some (.bool false))
 (laws_eqWriteS_l0 E a0 a1 (.int .i64 0)) := (h.is _ rfl).trans (laws_eqWriteS_eq E a0 a1)

end Go.Proofs.Ytmebdbagcbgddaa.Am
namespace Go.Proofs.Ytmebdbagcbgddaa.Am
open Go
set_option linter.unusedVariables false
set_option maxRecDepth 100000

/- loop.example/g01924/laws.eqEntry -/
def laws_eqEntry_ac : AC :=
 (.seq (.region 0 [⟨some 2, .box false (.t 0), none⟩,
  ⟨some 3, .box false (.t 1), none⟩,
  ⟨some 4, .mv (.c (.bool false)), none⟩])
 (.seq (.seq (.region 0 [⟨some 5, .faddr 0 0 (.t 2), none⟩,
  ⟨some 6, .load false 1 (.t 5), none⟩,
  ⟨some 7, .faddr 0 0 (.t 3), none⟩,
  ⟨some 8, .load false 1 (.t 7), none⟩,
  ⟨some 9, .bin .neq (.t 6) (.t 8), none⟩])
 (.cond (.t 9) (.seq (.region 0 [⟨some 4, .mv (.c (.bool false)), none⟩])
 .ret) .skip))
 (.seq (.seq (.region 0 [⟨some 10, .faddr 1 1 (.t 2), none⟩,
  ⟨some 11, .load false 1 (.t 10), none⟩,
  ⟨some 12, .faddr 1 1 (.t 3), none⟩,
  ⟨some 13, .load false 1 (.t 12), none⟩,
  ⟨some 14, .bin .neq (.t 11) (.t 13), none⟩])
 (.cond (.t 14) (.seq (.region 0 [⟨some 4, .mv (.c (.bool false)), none⟩])
 .ret) .skip))
 (.seq (.seq (.region 0 [⟨some 15, .faddr 2 2 (.t 2), none⟩,
  ⟨some 16, .load false 1 (.t 15), none⟩,
  ⟨some 17, .faddr 2 2 (.t 3), none⟩,
  ⟨some 18, .load false 1 (.t 17), none⟩,
  ⟨some 19, .call false 34 [(.t 16), (.t 18)], none⟩,
  ⟨some 20, .un .not (.t 19), none⟩])
 (.cond (.t 20) (.seq (.region 0 [⟨some 4, .mv (.c (.bool false)), none⟩])
 .ret) .skip))
 (.seq (.seq (.region 0 [⟨some 21, .faddr 3 3 (.t 2), none⟩,
  ⟨some 22, .load false 1 (.t 21), none⟩,
  ⟨some 23, .faddr 3 3 (.t 3), none⟩,
  ⟨some 24, .load false 1 (.t 23), none⟩,
  ⟨some 25, .call false 33 [(.t 22), (.t 24)], none⟩,
  ⟨some 26, .un .not (.t 25), none⟩])
 (.cond (.t 26) (.seq (.region 0 [⟨some 4, .mv (.c (.bool false)), none⟩])
 .ret) .skip))
 (.seq (.region 0 [⟨some 4, .mv (.c (.bool true)), none⟩])
 .ret))))))

theorem laws_eqEntry_eq (E : Env) (a0 : U) (a1 : U) : run E laws_eqEntry_ac [(4, none)] [a0, a1] =
 U.noTup a0 fun x1 => U.noTup a1 fun x2 => U.asAgg x1 fun us3 => if 0 = sizes (us3.take 0) then (us3[0]?).bind fun e4 => U.asVar false 1 e4 fun e5 => U.asAgg x2 fun us6 => if 0 = sizes (us6.take 0) then (us6[0]?).bind fun e7 => U.asVar false 1 e7 fun e8 => (U.bin .neq e5 e8).bind fun t9 => U.asBool t9
 (some (.bool false))
 (U.asAgg x1 fun us10 => if 1 = sizes (us10.take 1) then (us10[1]?).bind fun e11 => U.asVar false 1 e11 fun e12 => U.asAgg x2 fun us13 => if 1 = sizes (us13.take 1) then (us13[1]?).bind fun e14 => U.asVar false 1 e14 fun e15 => (U.bin .neq e12 e15).bind fun t16 => U.asBool t16
 (some (.bool false))
 (U.asAgg x1 fun us17 => if 2 = sizes (us17.take 2) then (us17[2]?).bind fun e18 => U.asVar false 1 e18 fun e19 => U.asAgg x2 fun us20 => if 2 = sizes (us20.take 2) then (us20[2]?).bind fun e21 => U.asVar false 1 e21 fun e22 => (E 34 [e19, e22]).bind fun t23 => (U.un .not t23).bind fun t24 => U.asBool t24
 (some (.bool false))
 (U.asAgg x1 fun us25 => if 3 = sizes (us25.take 3) then (us25[3]?).bind fun e26 => U.asVar false 1 e26 fun e27 => U.asAgg x2 fun us28 => if 3 = sizes (us28.take 3) then (us28[3]?).bind fun e29 => U.asVar false 1 e29 fun e30 => (E 33 [e27, e30]).bind fun t31 => (U.un .not t31).bind fun t32 => U.asBool t32
 (some (.bool false))
 (some (.bool true)) else none else none) else none else none) else none else none) else none else none := by kernel_rfl

/-- In the environment E: this function and those that it calls. -/
structure G_laws_eqEntry (E : Env) : Prop where
  is : Is E 56 2 laws_eqEntry_ac [(4, none)]
  c_laws_eqReadMarkS : G_laws_eqReadMarkS E
  c_laws_eqWriteS : G_laws_eqWriteS E
theorem laws_eqEntry_E {E : Env} (h : G_laws_eqEntry E) (a0 a1 : U) : E 56 [a0, a1] =
 U.noTup a0 fun x1 => U.noTup a1 fun x2 => U.asAgg x1 fun us3 => if 0 = sizes (us3.take 0) then (us3[0]?).bind fun e4 => U.asVar false 1 e4 fun e5 => U.asAgg x2 fun us6 => if 0 = sizes (us6.take 0) then (us6[0]?).bind fun e7 => U.asVar false 1 e7 fun e8 => (U.bin .neq e5 e8).bind fun t9 => U.asBool t9
 (some (.bool false))
 (U.asAgg x1 fun us10 => if 1 = sizes (us10.take 1) then (us10[1]?).bind fun e11 => U.asVar false 1 e11 fun e12 => U.asAgg x2 fun us13 => if 1 = sizes (us13.take 1) then (us13[1]?).bind fun e14 => U.asVar false 1 e14 fun e15 => (U.bin .neq e12 e15).bind fun t16 => U.asBool t16
 (some (.bool false))
 (U.asAgg x1 fun us17 => if 2 = sizes (us17.take 2) then (us17[2]?).bind fun e18 => U.asVar false 1 e18 fun e19 => U.asAgg x2 fun us20 => if 2 = sizes (us20.take 2) then (us20[2]?).bind fun e21 => U.asVar false 1 e21 fun e22 => (E 34 [e19, e22]).bind fun t23 => (U.un .not t23).bind fun t24 => U.asBool t24
 (some (.bool false))
 (U.asAgg x1 fun us25 => if 3 = sizes (us25.take 3) then (us25[3]?).bind fun e26 => U.asVar false 1 e26 fun e27 => U.asAgg x2 fun us28 => if 3 = sizes (us28.take 3) then (us28[3]?).bind fun e29 => U.asVar false 1 e29 fun e30 => (E 33 [e27, e30]).bind fun t31 => (U.un .not t31).bind fun t32 => U.asBool t32
 (some (.bool false))
 (some (.bool true)) else none else none) else none else none) else none else none) else none else none := (h.is _ rfl).trans (laws_eqEntry_eq E a0 a1)

end Go.Proofs.Ytmebdbagcbgddaa.Am
namespace Go.Proofs.Ytmebdbagcbgddaa.Am
open Go
set_option linter.unusedVariables false
set_option maxRecDepth 100000

/- loop.example/g01924/laws.eqEntryS -/
def laws_eqEntryS_b0 : AC :=
 (.seq (.seq (.region 0 [⟨some 11, .mv (.t 5), none⟩,
  ⟨some 12, .mv (.t 0), none⟩,
  ⟨some 13, .len false (.t 12), none⟩,
  ⟨some 14, .bin .lss (.t 11) (.t 13), none⟩])
 (.cond (.t 14) .skip (.exit 0)))
 (.seq (.block 1 (.seq (.region 10 [⟨some 17, .mv (.t 0), none⟩,
  ⟨some 18, .mv (.t 5), none⟩,
  ⟨some 19, .iaddr 4 (.t 17) (.t 18), none⟩,
  ⟨some 20, .load true 4 (.t 19), none⟩,
  ⟨some 21, .mv (.t 1), none⟩,
  ⟨some 22, .mv (.t 5), none⟩,
  ⟨some 23, .iaddr 4 (.t 21) (.t 22), none⟩,
  ⟨some 24, .load true 4 (.t 23), none⟩,
  ⟨some 25, .call false 56 [(.t 20), (.t 24)], none⟩,
  ⟨some 26, .un .not (.t 25), none⟩])
 (.cond (.t 26) (.seq (.region 0 [⟨some 4, .mv (.c (.bool false)), none⟩])
 .ret) .skip)))
 (.region 0 [⟨some 15, .mv (.t 5), none⟩,
  ⟨some 16, .bin .add (.t 15) (.c (.int .i64 1)), none⟩,
  ⟨some 5, .mv (.t 16), none⟩])))
def laws_eqEntryS_r0 : AC :=
 (.seq (.region 0 [⟨some 4, .mv (.c (.bool true)), none⟩])
 .ret)
def laws_eqEntryS_ac : AC :=
 (.seq (.region 0 [⟨some 4, .mv (.c (.bool false)), none⟩])
 (.seq (.seq (.region 0 [⟨some 6, .mv (.t 0), none⟩,
  ⟨some 7, .len false (.t 6), none⟩,
  ⟨some 8, .mv (.t 1), none⟩,
  ⟨some 9, .len false (.t 8), none⟩,
  ⟨some 10, .bin .neq (.t 7) (.t 9), none⟩])
 (.cond (.t 10) (.seq (.region 0 [⟨some 4, .mv (.c (.bool false)), none⟩])
 .ret) .skip))
 (.seq (.seq (.region 0 [⟨some 5, .mv (.c (.int .i64 0)), none⟩])
 (.block 0 (.loop ⟨[0, 1, 5], [], []⟩ laws_eqEntryS_b0)))
 laws_eqEntryS_r0)))
noncomputable def laws_eqEntryS_l0 (E : Env) (x0 : U) (x1 : U) (x5 : U) : Option U := loopK (roundOf E ⟨[0, 1, 5], [], []⟩ laws_eqEntryS_b0 (blockK 0 (seqK (fun s => exec E laws_eqEntryS_r0 s (finish [(4, none)])) (finish [(4, none)])))) ([.val x0, .val x1, .val x5], [])
theorem laws_eqEntryS_eq (E : Env) (a0 : U) (a1 : U) : run E laws_eqEntryS_ac [(4, none)] [a0, a1] =
 (U.lenOf false a0).bind fun n1 => (U.lenOf false a1).bind fun n2 => (U.bin .neq (.int .i64 (n1 : Int)) (.int .i64 (n2 : Int))).bind fun t3 => U.asBool t3
 (some (.bool false))
 (laws_eqEntryS_l0 E a0 a1 (.int .i64 0)) := by kernel_rfl
theorem laws_eqEntryS_l0_eq (E : Env) (x0 : U) (x1 : U) (x5 : U) : laws_eqEntryS_l0 E x0 x1 x5 =
 (U.lenOf false x0).bind fun n4 => (U.bin .lss x5 (.int .i64 (n4 : Int))).bind fun t5 => U.asBool t5
 (U.asInt x5 fun n6 => U.elemAt 4 x0 n6 fun e7 => U.asVar true 4 e7 fun e8 => U.asInt x5 fun n9 => U.elemAt 4 x1 n9 fun e10 => U.asVar true 4 e10 fun e11 => (E 56 [e8, e11]).bind fun t12 => (U.un .not t12).bind fun t13 => U.asBool t13
 (some (.bool false))
 ((U.bin .add x5 (.int .i64 1)).bind fun t14 => laws_eqEntryS_l0 E x0 x1 t14))
 (some (.bool true)) :=
 (loop_eq E _ _ _ _).trans (by kernel_rfl)

/-- In the environment E: this function and those that it calls. -/
structure G_laws_eqEntryS (E : Env) : Prop where
  is : Is E 46 2 laws_eqEntryS_ac [(4, none)]
  c_laws_eqEntry : G_laws_eqEntry E
theorem laws_eqEntryS_E {E : Env} (h : G_laws_eqEntryS E) (a0 a1 : U) : E 46 [a0, a1] =
 (U.lenOf false a0).bind fun n1 => (U.lenOf false a1).bind fun n2 => (U.bin .neq (.int .i64 (n1 : Int)) (.int .i64 (n2 : Int))).bind fun t3 => U.asBool t3
 (some (.bool false))
 (laws_eqEntryS_l0 E a0 a1 (.int .i64 0)) := (h.is _ rfl).trans (laws_eqEntryS_eq E a0 a1)

end Go.Proofs.Ytmebdbagcbgddaa.Am
namespace Go.Proofs.Ytmebdbagcbgddaa.Am
open Go
set_option linter.unusedVariables false
set_option maxRecDepth 100000

/- loop.example/g01924/laws.FnExactNextWriter -/
def laws_FnExactNextWriter_ac : AC :=
 (.seq (.region 0 [⟨some 6, .mv (.c (.bool false)), none⟩])
 (.seq (.region 0 [⟨some 7, .mv (.c (.int .i64 1048576)), none⟩])
 (.seq (.region 0 [⟨some 11, .mv (.t 0), none⟩,
  ⟨some 12, .mv (.t 7), none⟩,
  ⟨some 13, .call false 49 [(.t 11), (.t 12)], none⟩,
  ⟨some 7, .mv (.t 13), none⟩])
 (.seq (.seq (.region 0 [⟨some 14, .mv (.t 7), none⟩,
  ⟨some 15, .bin .lss (.t 14) (.c (.int .i64 0)), none⟩])
 (.cond (.t 15) (.seq (.region 0 [⟨some 6, .mv (.c (.bool true)), none⟩])
 .ret) .skip))
 (.seq (.region 0 [⟨some 16, .mv (.t 0), none⟩,
  ⟨some 17, .call false 45 [(.t 16)], none⟩,
  ⟨some 18, .mv (.t 1), none⟩,
  ⟨some 19, .mv (.t 2), none⟩,
  ⟨some 20, .call false 48 [(.t 17), (.t 18), (.t 19)], none⟩,
  ⟨some 8, .mv (.t 20), none⟩])
 (.seq (.region 0 [⟨some 21, .mv (.t 0), none⟩,
  ⟨some 22, .call false 45 [(.t 21)], none⟩,
  ⟨some 9, .mv (.t 22), none⟩])
 (.seq (.region 0 [⟨some 23, .mv (.t 9), none⟩,
  ⟨some 24, .mv (.t 1), none⟩,
  ⟨some 25, .mv (.t 2), none⟩,
  ⟨some 26, .call false 47 [(.t 23), (.t 24), (.t 25)], none⟩,
  ⟨some 10, .mv (.t 26), none⟩])
 (.seq (.seq (.region 0 [⟨some 27, .mv (.t 10), none⟩,
  ⟨some 28, .mv (.t 8), none⟩,
  ⟨some 29, .bin .neq (.t 27) (.t 28), none⟩])
 (.cond (.t 29) (.seq (.region 0 [⟨some 6, .mv (.c (.bool false)), none⟩])
 .ret) .skip))
 (.seq (.seq (.region 0 [⟨some 30, .mv (.t 9), none⟩,
  ⟨some 31, .mv (.t 0), none⟩,
  ⟨some 32, .call false 45 [(.t 31)], none⟩,
  ⟨some 33, .call false 46 [(.t 30), (.t 32)], none⟩,
  ⟨some 34, .un .not (.t 33), none⟩])
 (.cond (.t 34) (.seq (.region 0 [⟨some 6, .mv (.c (.bool false)), none⟩])
 .ret) .skip))
 (.seq (.region 0 [⟨some 6, .mv (.c (.bool true)), none⟩])
 .ret))))))))))

theorem laws_FnExactNextWriter_eq (E : Env) (a0 : U) (a1 : U) (a2 : U) : run E laws_FnExactNextWriter_ac [(6, none)] [a0, a1, a2] =
 (E 49 [a0, (.int .i64 1048576)]).bind fun t1 => (U.bin .lss t1 (.int .i64 0)).bind fun t2 => U.asBool t2
 (some (.bool true))
 ((E 45 [a0]).bind fun t3 => (E 48 [t3, a1, a2]).bind fun t4 => (E 45 [a0]).bind fun t5 => (E 47 [t5, a1, a2]).bind fun t6 => (U.bin .neq t6 t4).bind fun t7 => U.asBool t7
 (some (.bool false))
 ((E 45 [a0]).bind fun t8 => (E 46 [t5, t8]).bind fun t9 => (U.un .not t9).bind fun t10 => U.asBool t10
 (some (.bool false))
 (some (.bool true)))) := by kernel_rfl

/-- In the environment E: this function and those that it calls. -/
structure G_laws_FnExactNextWriter (E : Env) : Prop where
  is : Is E 44 3 laws_FnExactNextWriter_ac [(6, none)]
  c_laws_szEntryS : G_laws_szEntryS E
  c_spec_NextWriter : G_spec_NextWriter E
  c_laws_toEntryS : G_laws_toEntryS E
  c_impl_NextWriter : G_impl_NextWriter E
  c_laws_eqEntryS : G_laws_eqEntryS E
theorem laws_FnExactNextWriter_E {E : Env} (h : G_laws_FnExactNextWriter E) (a0 a1 a2 : U) : E 44 [a0, a1, a2] =
 (E 49 [a0, (.int .i64 1048576)]).bind fun t1 => (U.bin .lss t1 (.int .i64 0)).bind fun t2 => U.asBool t2
 (some (.bool true))
 ((E 45 [a0]).bind fun t3 => (E 48 [t3, a1, a2]).bind fun t4 => (E 45 [a0]).bind fun t5 => (E 47 [t5, a1, a2]).bind fun t6 => (U.bin .neq t6 t4).bind fun t7 => U.asBool t7
 (some (.bool false))
 ((E 45 [a0]).bind fun t8 => (E 46 [t5, t8]).bind fun t9 => (U.un .not t9).bind fun t10 => U.asBool t10
 (some (.bool false))
 (some (.bool true)))) := (h.is _ rfl).trans (laws_FnExactNextWriter_eq E a0 a1 a2)

end Go.Proofs.Ytmebdbagcbgddaa.Am
