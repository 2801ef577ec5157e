import Derived.KernelRfl
import Derived.Test.YtmebdbagcbgddaaCycleEdgesF0
import Derived.Test.YtmebdbagcbgddaaAmW
namespace Go.Proofs.Ytmebdbagcbgddaa.Am
open Go
set_option linter.unusedVariables false
set_option maxRecDepth 100000

/- loop.example/g01924/spec.IsAcyclic -/
def spec_IsAcyclic_ac : AC :=
 (.seq (.region 0 [⟨some 2, .mv (.c (.bool false)), none⟩])
 (.seq (.region 0 [⟨some 3, .mv (.t 0), none⟩,
  ⟨some 4, .call false 4 [(.t 3)], none⟩,
  ⟨some 5, .mv (.t 4), none⟩,
  ⟨some 6, .mv (.t 0), some (5, true)⟩,
  ⟨some 7, .call false 80 [(.t 6)], some (5, true)⟩,
  ⟨some 8, .len false (.t 7), some (5, true)⟩,
  ⟨some 9, .bin .eql (.t 8) (.c (.int .i64 0)), some (5, true)⟩,
  ⟨some 10, .pick (.t 5) (.t 9) (.c (.bool false)), none⟩,
  ⟨some 2, .mv (.t 10), none⟩])
 .ret))

theorem spec_IsAcyclic_eq (E : Env) (a0 : U) : run E spec_IsAcyclic_ac [(2, none)] [a0] =
 (E 4 [a0]).bind fun t1 => U.asBool t1
 ((E 80 [a0]).bind fun t2 => (U.lenOf false t2).bind fun n3 => (U.bin .eql (.int .i64 (n3 : Int)) (.int .i64 0)).bind fun t4 => some t4)
 (some (.bool false)) := by kernel_rfl

/-- In the environment E: this function and those that it calls. -/
structure G_spec_IsAcyclic (E : Env) : Prop where
  is : Is E 79 1 spec_IsAcyclic_ac [(2, none)]
  c_spec_AreEdges : G_spec_AreEdges E
  c_spec_ShortestCycle : G_spec_ShortestCycle E
theorem spec_IsAcyclic_E {E : Env} (h : G_spec_IsAcyclic E) (a0 : U) : E 79 [a0] =
 (E 4 [a0]).bind fun t1 => U.asBool t1
 ((E 80 [a0]).bind fun t2 => (U.lenOf false t2).bind fun n3 => (U.bin .eql (.int .i64 (n3 : Int)) (.int .i64 0)).bind fun t4 => some t4)
 (some (.bool false)) := (h.is _ rfl).trans ((runQ_V rfl).trans (spec_IsAcyclic_eq E a0))

end Go.Proofs.Ytmebdbagcbgddaa.Am
namespace Go.Proofs.Ytmebdbagcbgddaa.Am
open Go
set_option linter.unusedVariables false
set_option maxRecDepth 100000

/- loop.example/g01924/impl.IsAcyclic -/
def impl_IsAcyclic_ac : AC :=
 (.seq (.region 0 [⟨some 2, .mv (.c (.bool false)), none⟩])
 (.seq (.region 0 [⟨some 3, .mv (.t 0), none⟩,
  ⟨some 4, .call false 3 [(.t 3)], none⟩,
  ⟨some 5, .mv (.t 4), none⟩,
  ⟨some 6, .mv (.t 0), some (5, true)⟩,
  ⟨some 7, .call false 81 [(.t 6)], some (5, true)⟩,
  ⟨some 8, .len false (.t 7), some (5, true)⟩,
  ⟨some 9, .bin .eql (.t 8) (.c (.int .i64 0)), some (5, true)⟩,
  ⟨some 10, .pick (.t 5) (.t 9) (.c (.bool false)), none⟩,
  ⟨some 2, .mv (.t 10), none⟩])
 .ret))

theorem impl_IsAcyclic_eq (E : Env) (a0 : U) : run E impl_IsAcyclic_ac [(2, none)] [a0] =
 (E 3 [a0]).bind fun t1 => U.asBool t1
 ((E 81 [a0]).bind fun t2 => (U.lenOf false t2).bind fun n3 => (U.bin .eql (.int .i64 (n3 : Int)) (.int .i64 0)).bind fun t4 => some t4)
 (some (.bool false)) := by kernel_rfl

/-- In the environment E: this function and those that it calls. -/
structure G_impl_IsAcyclic (E : Env) : Prop where
  is : Is E 78 1 impl_IsAcyclic_ac [(2, none)]
  c_impl_AreEdges : G_impl_AreEdges E
  c_impl_ShortestCycle : G_impl_ShortestCycle E
theorem impl_IsAcyclic_E {E : Env} (h : G_impl_IsAcyclic E) (a0 : U) : E 78 [a0] =
 (E 3 [a0]).bind fun t1 => U.asBool t1
 ((E 81 [a0]).bind fun t2 => (U.lenOf false t2).bind fun n3 => (U.bin .eql (.int .i64 (n3 : Int)) (.int .i64 0)).bind fun t4 => some t4)
 (some (.bool false)) := (h.is _ rfl).trans ((runQ_V rfl).trans (impl_IsAcyclic_eq E a0))

end Go.Proofs.Ytmebdbagcbgddaa.Am
namespace Go.Proofs.Ytmebdbagcbgddaa.Am
open Go
set_option linter.unusedVariables false
set_option maxRecDepth 100000

/- loop.example/g01924/impl.ShortestCycle!F -/
def impl_ShortestCycle_F_b2 : AC :=
 (.seq (.seq (.region 0 [⟨some 14, .mv (.t 5), none⟩,
  ⟨some 15, .bin .leq (.t 14) (.c (.int .i64 9)), none⟩])
 (.cond (.t 15) .skip (.exit 0)))
 (.seq (.block 1 (.seq (.region 0 [⟨some 18, .mv (.t 0), none⟩,
  ⟨some 19, .mv (.t 5), none⟩,
  ⟨some 20, .call false 41 [(.t 18), (.t 19)], none⟩,
  ⟨some 21, .mv (.t 5), none⟩,
  ⟨some 22, .idxa false 1 10 1 (.t 20) (.t 21), none⟩,
  ⟨some 6, .mv (.t 22), none⟩])
 (.seq (.region 0 [⟨some 23, .mv (.t 6), none⟩,
  ⟨some 24, .bin .gtr (.t 23) (.c (.int .i64 0)), none⟩,
  ⟨some 25, .mv (.t 24), none⟩,
  ⟨some 26, .mv (.t 3), some (25, true)⟩,
  ⟨some 27, .bin .eql (.t 26) (.c (.int .i64 0)), some (25, true)⟩,
  ⟨some 28, .mv (.t 27), some (25, true)⟩,
  ⟨some 29, .mv (.t 6), some (28, false)⟩,
  ⟨some 30, .mv (.t 4), some (28, false)⟩,
  ⟨some 31, .bin .lss (.t 29) (.t 30), some (28, false)⟩,
  ⟨some 32, .pick (.t 28) (.c (.bool true)) (.t 31), some (25, true)⟩,
  ⟨some 33, .pick (.t 25) (.t 32) (.c (.bool false)), none⟩])
 (.cond (.t 33) (.region 0 [⟨some 34, .mv (.t 5), none⟩,
  ⟨some 35, .mv (.t 6), none⟩,
  ⟨some 3, .mv (.t 34), none⟩,
  ⟨some 4, .mv (.t 35), none⟩]) .skip))))
 (.region 0 [⟨some 16, .mv (.t 5), none⟩,
  ⟨some 17, .bin .add (.t 16) (.c (.int .i64 1)), none⟩,
  ⟨some 5, .mv (.t 17), none⟩])))
def impl_ShortestCycle_F_b1 : AC :=
 (.seq (.seq (.region 0 [⟨some 49, .mv (.t 10), none⟩,
  ⟨some 50, .bin .leq (.t 49) (.c (.int .i64 9)), none⟩])
 (.cond (.t 50) .skip (.exit 4)))
 (.seq (.block 5 (.seq (.region 0 [⟨some 53, .mv (.t 10), none⟩,
  ⟨some 54, .aaddr 10 1 (.t 8) (.t 53), none⟩,
  ⟨some 55, .load false 1 (.t 54), none⟩,
  ⟨some 56, .mv (.t 9), none⟩,
  ⟨some 57, .bin .eql (.t 55) (.t 56), none⟩,
  ⟨some 58, .mv (.t 57), none⟩,
  ⟨some 59, .mv (.t 0), some (58, true)⟩,
  ⟨some 60, .mv (.t 7), some (58, true)⟩,
  ⟨some 61, .mv (.t 7), some (58, true)⟩,
  ⟨some 62, .len false (.t 61), some (58, true)⟩,
  ⟨some 63, .bin .sub (.t 62) (.c (.int .i64 1)), some (58, true)⟩,
  ⟨some 64, .iaddr 1 (.t 60) (.t 63), some (58, true)⟩,
  ⟨some 65, .load false 1 (.t 64), some (58, true)⟩,
  ⟨some 66, .mv (.t 10), some (58, true)⟩,
  ⟨some 67, .call false 63 [(.t 59), (.t 65), (.t 66)], some (58, true)⟩,
  ⟨some 68, .pick (.t 58) (.t 67) (.c (.bool false)), none⟩])
 (.cond (.t 68) (.seq (.region 0 [⟨some 69, .mv (.t 7), none⟩,
  ⟨some 70, .mv (.t 10), none⟩,
  ⟨some 71, .bslice true 1 1 (.int .i64 0) [(0, (.t 70))], none⟩,
  ⟨some 72, .append 1 8 (.t 69) (.t 71), none⟩,
  ⟨some 7, .mv (.t 72), none⟩])
 (.exit 4)) .skip)))
 (.region 0 [⟨some 51, .mv (.t 10), none⟩,
  ⟨some 52, .bin .add (.t 51) (.c (.int .i64 1)), none⟩,
  ⟨some 10, .mv (.t 52), none⟩])))
def impl_ShortestCycle_F_r0 : AC :=
 (.region 0 [⟨some 47, .mv (.t 9), none⟩,
  ⟨some 48, .bin .sub (.t 47) (.c (.int .i64 1)), none⟩,
  ⟨some 9, .mv (.t 48), none⟩])
def impl_ShortestCycle_F_b0 : AC :=
 (.seq (.seq (.region 0 [⟨some 45, .mv (.t 9), none⟩,
  ⟨some 46, .bin .gtr (.t 45) (.c (.int .i64 0)), none⟩])
 (.cond (.t 46) .skip (.exit 2)))
 (.seq (.block 3 (.seq (.region 0 [⟨some 10, .mv (.c (.int .i64 1)), none⟩])
 (.block 4 (.loop ⟨[0, 8, 9, 10], [(7, 1)], [8]⟩ impl_ShortestCycle_F_b1))))
 impl_ShortestCycle_F_r0))
def impl_ShortestCycle_F_r1 : AC :=
 (.seq (.region 0 [⟨some 73, .mv (.t 7), none⟩,
  ⟨some 2, .mv (.t 73), none⟩])
 .ret)
def impl_ShortestCycle_F_r2 : AC :=
 (.seq (.seq (.region 0 [⟨some 36, .mv (.t 3), none⟩,
  ⟨some 37, .bin .eql (.t 36) (.c (.int .i64 0)), none⟩])
 (.cond (.t 37) (.seq (.region 0 [⟨some 2, .mv (.c (.nsl 1)), none⟩])
 .ret) .skip))
 (.seq (.region 0 [⟨some 38, .mv (.t 3), none⟩,
  ⟨some 39, .bslice false 1 1 (.int .i64 0) [(0, (.t 38))], none⟩,
  ⟨some 40, .mv (.t 0), none⟩,
  ⟨some 41, .mv (.t 3), none⟩,
  ⟨some 42, .call false 41 [(.t 40), (.t 41)], none⟩,
  ⟨some 8, .alloc (.agg [(.int .i64 0), (.int .i64 0), (.int .i64 0), (.int .i64 0), (.int .i64 0), (.int .i64 0), (.int .i64 0), (.int .i64 0), (.int .i64 0), (.int .i64 0)]), none⟩,
  ⟨some 7, .mv (.t 39), none⟩,
  ⟨none, .store 10 (.t 8) (.t 42), none⟩])
 (.seq (.seq (.region 0 [⟨some 43, .mv (.t 4), none⟩,
  ⟨some 44, .bin .sub (.t 43) (.c (.int .i64 1)), none⟩,
  ⟨some 9, .mv (.t 44), none⟩])
 (.block 2 (.loop ⟨[0, 8, 9], [(7, 1)], [8]⟩ impl_ShortestCycle_F_b0)))
 impl_ShortestCycle_F_r1)))
def impl_ShortestCycle_F_ac : AC :=
 (.seq (.region 0 [⟨some 2, .mv (.c (.nsl 1)), none⟩])
 (.seq (.seq (.region 0 [⟨some 11, .mv (.t 0), none⟩,
  ⟨some 12, .call false 3 [(.t 11)], none⟩,
  ⟨some 13, .un .not (.t 12), none⟩])
 (.cond (.t 13) (.seq (.region 0 [⟨some 2, .mv (.c (.nsl 1)), none⟩])
 .ret) .skip))
 (.seq (.region 0 [⟨some 3, .mv (.c (.int .i64 0)), none⟩,
  ⟨some 4, .mv (.c (.int .i64 0)), none⟩])
 (.seq (.seq (.region 0 [⟨some 5, .mv (.c (.int .i64 1)), none⟩])
 (.block 0 (.loop ⟨[0, 3, 4, 5], [], []⟩ impl_ShortestCycle_F_b2)))
 impl_ShortestCycle_F_r2))))
noncomputable def impl_ShortestCycle_F_l2 (E : Env) (x0 : U) (x3 : U) (x4 : U) (x5 : U) : Option U := loopK (roundOf E ⟨[0, 3, 4, 5], [], []⟩ impl_ShortestCycle_F_b2 (blockK 0 (seqK (fun s => exec E impl_ShortestCycle_F_r2 s (finishF [(2, none)])) (finishF [(2, none)])))) ([.val x0, .val x3, .val x4, .val x5], [])
noncomputable def impl_ShortestCycle_F_l0 (E : Env) (x0 : U) (x9 : U) (c7 : List U) (b8 : U) : Option U := loopK (roundOf E ⟨[0, 8, 9], [(7, 1)], [8]⟩ impl_ShortestCycle_F_b0 (blockK 2 (seqK (fun s => exec E impl_ShortestCycle_F_r1 s (finishF [(2, none)])) (finishF [(2, none)])))) ([.val x0, .ptr 8 [], .val x9], [.arr 1 c7, .box (.val b8)])
noncomputable def impl_ShortestCycle_F_l1 (E : Env) (x0 : U) (x9 : U) (x10 : U) (c7 : List U) (b8 : U) : Option U := loopK (roundOf E ⟨[0, 8, 9, 10], [(7, 1)], [8]⟩ impl_ShortestCycle_F_b1 (blockK 4 (blockK 3 (seqK (fun s => exec E impl_ShortestCycle_F_r0 s (roundK ⟨[0, 8, 9], [(7, 1)], [8]⟩ (loopK (roundOf E ⟨[0, 8, 9], [(7, 1)], [8]⟩ impl_ShortestCycle_F_b0 (blockK 2 (seqK (fun s => exec E impl_ShortestCycle_F_r1 s (finishF [(2, none)])) (finishF [(2, none)]))))) (blockK 2 (seqK (fun s => exec E impl_ShortestCycle_F_r1 s (finishF [(2, none)])) (finishF [(2, none)]))))) (roundK ⟨[0, 8, 9], [(7, 1)], [8]⟩ (loopK (roundOf E ⟨[0, 8, 9], [(7, 1)], [8]⟩ impl_ShortestCycle_F_b0 (blockK 2 (seqK (fun s => exec E impl_ShortestCycle_F_r1 s (finishF [(2, none)])) (finishF [(2, none)]))))) (blockK 2 (seqK (fun s => exec E impl_ShortestCycle_F_r1 s (finishF [(2, none)])) (finishF [(2, none)])))))))) ([.val x0, .ptr 8 [], .val x9, .val x10], [.arr 1 c7, .box (.val b8)])
theorem impl_ShortestCycle_F_eq (E : Env) (a0 : U) : exec E impl_ShortestCycle_F_ac (start [a0]) (finishF [(2, none)]) =
 (E 3 [a0]).bind fun t1 => (U.un .not t1).bind fun t2 => U.asBool t2
 (some (.sl 1 []))
 (impl_ShortestCycle_F_l2 E a0 (.int .i64 0) (.int .i64 0) (.int .i64 1)) := by kernel_rfl
theorem impl_ShortestCycle_F_l2_eq (E : Env) (x0 : U) (x3 : U) (x4 : U) (x5 : U) : impl_ShortestCycle_F_l2 E x0 x3 x4 x5 =
 (U.bin .leq x5 (.int .i64 9)).bind fun t3 => U.asBool t3
 ((E 41 [x0, x5]).bind fun t4 => U.asInt x5 fun n5 => if 0 ≤ n5 ∧ n5 < 10 then U.fieldAt (n5 : Int).toNat ((n5 : Int).toNat * 1) t4 fun e6 => U.asVar false 1 e6 fun e7 => (U.bin .gtr e7 (.int .i64 0)).bind fun t8 => U.asBool t8
 ((U.bin .eql x3 (.int .i64 0)).bind fun t9 => U.asBool t9
 ((U.bin .add x5 (.int .i64 1)).bind fun t10 => impl_ShortestCycle_F_l2 E x0 x5 e7 t10)
 ((U.bin .lss e7 x4).bind fun t11 => U.asBool t11
 ((U.bin .add x5 (.int .i64 1)).bind fun t12 => impl_ShortestCycle_F_l2 E x0 x5 e7 t12)
 ((U.bin .add x5 (.int .i64 1)).bind fun t13 => impl_ShortestCycle_F_l2 E x0 x3 x4 t13)))
 ((U.bin .add x5 (.int .i64 1)).bind fun t14 => impl_ShortestCycle_F_l2 E x0 x3 x4 t14) else none)
 ((U.bin .eql x3 (.int .i64 0)).bind fun t15 => U.asBool t15
 (some (.sl 1 []))
 (if storable (.val x3) = true ∧ x3.size = 1 then (E 41 [x0, x3]).bind fun t16 => if storable (.val t16) = true ∧ t16.size = 10 then (U.bin .sub x4 (.int .i64 1)).bind fun t17 => impl_ShortestCycle_F_l0 E x0 t17 [x3] t16 else none else none)) :=
 (loop_eq E _ _ _ _).trans (by kernel_rfl)
theorem impl_ShortestCycle_F_l0_eq (E : Env) (x0 : U) (x9 : U) (c7 : List U) (b8 : U) : impl_ShortestCycle_F_l0 E x0 x9 c7 b8 =
 (U.bin .gtr x9 (.int .i64 0)).bind fun t18 => U.asBool t18
 (impl_ShortestCycle_F_l1 E x0 x9 (.int .i64 1) c7 b8)
 (if 1 = 1 ∧ U.flat.flats c7 = true then some (.sl 1 c7) else none) :=
 (loop_eq E _ _ _ _).trans (by kernel_rfl)
theorem impl_ShortestCycle_F_l1_eq (E : Env) (x0 : U) (x9 : U) (x10 : U) (c7 : List U) (b8 : U) : impl_ShortestCycle_F_l1 E x0 x9 x10 c7 b8 =
 (U.bin .leq x10 (.int .i64 9)).bind fun t19 => U.asBool t19
 (U.asInt x10 fun n20 => if 0 ≤ n20 ∧ n20 < 10 then U.asAgg b8 fun us21 => if (n20 : Int).toNat * 1 = sizes (us21.take (n20 : Int).toNat) then (us21[(n20 : Int).toNat]?).bind fun e22 => U.asVar false 1 e22 fun e23 => (U.bin .eql e23 x9).bind fun t24 => U.asBool t24
 ((U.bin .sub (.int .i64 ((c7).length : Int)) (.int .i64 1)).bind fun t25 => U.asInt t25 fun n26 => if 1 = 1 ∧ 1 = 1 ∧ 0 ≤ n26 ∧ n26 < ((c7).length : Int) then if 1 = 1 then (c7[(n26 : Int).toNat]?).bind fun e27 => U.asVar false 1 e27 fun e28 => (E 63 [x0, e28, x10]).bind fun t29 => U.asBool t29
 (if storable (.val x10) = true ∧ x10.size = 1 then if 1 = 1 ∧ 1 = 1 ∧ ((c7).length + ([x10] : List U).length) * 8 ≤ 140737488355328 then (U.bin .sub x9 (.int .i64 1)).bind fun t31 => impl_ShortestCycle_F_l0 E x0 t31 (c7 ++ [x10]) b8 else none else none)
 ((U.bin .add x10 (.int .i64 1)).bind fun t32 => impl_ShortestCycle_F_l1 E x0 x9 t32 c7 b8) else none else none)
 ((U.bin .add x10 (.int .i64 1)).bind fun t33 => impl_ShortestCycle_F_l1 E x0 x9 t33 c7 b8) else none else none)
 ((U.bin .sub x9 (.int .i64 1)).bind fun t34 => impl_ShortestCycle_F_l0 E x0 t34 c7 b8) :=
 (loop_eq E _ _ _ _).trans (by kernel_rfl)

/-- In the environment E: this function and those that it calls. -/
structure G_impl_ShortestCycle_F (E : Env) : Prop where
  is : Is E 100081 1 impl_ShortestCycle_F_ac [(2, none)]
  c_impl_AreEdges : G_impl_AreEdges E
  c_impl_distances : G_impl_distances E
  c_impl_HasEdge : G_impl_HasEdge E
theorem impl_ShortestCycle_F_E {E : Env} (h : G_impl_ShortestCycle_F E) (a0 : U) : E 100081 [a0] =
 (E 3 [a0]).bind fun t1 => (U.un .not t1).bind fun t2 => U.asBool t2
 (some (.sl 1 []))
 (impl_ShortestCycle_F_l2 E a0 (.int .i64 0) (.int .i64 0) (.int .i64 1)) := (h.is _ rfl).trans ((runQ_F rfl).trans (impl_ShortestCycle_F_eq E a0))

end Go.Proofs.Ytmebdbagcbgddaa.Am
namespace Go.Proofs.Ytmebdbagcbgddaa.Am
open Go
set_option linter.unusedVariables false
set_option maxRecDepth 100000

/- loop.example/g01924/laws.heldIntS -/
def laws_heldIntS_b0 : AC :=
 (.seq (.seq (.region 0 [⟨some 6, .mv (.t 5), none⟩,
  ⟨some 7, .mv (.t 0), none⟩,
  ⟨some 8, .len false (.t 7), none⟩,
  ⟨some 9, .bin .lss (.t 6) (.t 8), none⟩])
 (.cond (.t 9) .skip (.exit 0)))
 (.seq (.block 1 (.seq (.seq (.region 0 [⟨some 12, .mv (.t 0), none⟩,
  ⟨some 13, .mv (.t 5), none⟩,
  ⟨some 14, .iaddr 1 (.t 12) (.t 13), none⟩,
  ⟨some 15, .load false 1 (.t 14), none⟩,
  ⟨some 16, .mv (.t 1), none⟩,
  ⟨some 17, .bin .neq (.t 15) (.t 16), none⟩])
 (.cond (.t 17) (.seq (.region 0 [⟨some 4, .mv (.c (.int .i64 (-1))), none⟩])
 .ret) .skip))
 (.region 0 [⟨some 18, .mv (.t 1), none⟩,
  ⟨some 19, .bin .add (.t 18) (.c (.int .i64 1)), none⟩,
  ⟨some 1, .mv (.t 19), none⟩])))
 (.region 0 [⟨some 10, .mv (.t 5), none⟩,
  ⟨some 11, .bin .add (.t 10) (.c (.int .i64 1)), none⟩,
  ⟨some 5, .mv (.t 11), none⟩])))
def laws_heldIntS_r0 : AC :=
 (.seq (.region 0 [⟨some 20, .mv (.t 1), none⟩,
  ⟨some 4, .mv (.t 20), none⟩])
 .ret)
def laws_heldIntS_ac : AC :=
 (.seq (.region 0 [⟨some 4, .mv (.c (.int .i64 0)), none⟩])
 (.seq (.seq (.region 0 [⟨some 5, .mv (.c (.int .i64 0)), none⟩])
 (.block 0 (.loop ⟨[0, 1, 5], [], []⟩ laws_heldIntS_b0)))
 laws_heldIntS_r0))
noncomputable def laws_heldIntS_l0 (E : Env) (x0 : U) (x1 : U) (x5 : U) : Option U := loopK (roundOf E ⟨[0, 1, 5], [], []⟩ laws_heldIntS_b0 (blockK 0 (seqK (fun s => exec E laws_heldIntS_r0 s (finish [(4, none)])) (finish [(4, none)])))) ([.val x0, .val x1, .val x5], [])
theorem laws_heldIntS_eq (E : Env) (a0 : U) (a1 : U) : run E laws_heldIntS_ac [(4, none)] [a0, a1] =
 laws_heldIntS_l0 E a0 a1 (.int .i64 0) := by kernel_rfl
theorem laws_heldIntS_l0_eq (E : Env) (x0 : U) (x1 : U) (x5 : U) : laws_heldIntS_l0 E x0 x1 x5 =
 (U.lenOf false x0).bind fun n1 => (U.bin .lss x5 (.int .i64 (n1 : Int))).bind fun t2 => U.asBool t2
 (U.asInt x5 fun n3 => U.elemAt 1 x0 n3 fun e4 => U.asVar false 1 e4 fun e5 => (U.bin .neq e5 x1).bind fun t6 => U.asBool t6
 (some (.int .i64 (-1)))
 ((U.bin .add x1 (.int .i64 1)).bind fun t7 => (U.bin .add x5 (.int .i64 1)).bind fun t8 => laws_heldIntS_l0 E x0 t7 t8))
 (some x1) :=
 (loop_eq E _ _ _ _).trans (by kernel_rfl)

/-- In the environment E: this function and those that it calls. -/
structure G_laws_heldIntS (E : Env) : Prop where
  is : Is E 90 2 laws_heldIntS_ac [(4, none)]
theorem laws_heldIntS_E {E : Env} (h : G_laws_heldIntS E) (a0 a1 : U) : E 90 [a0, a1] =
 laws_heldIntS_l0 E a0 a1 (.int .i64 0) := (h.is _ rfl).trans ((runQ_V rfl).trans (laws_heldIntS_eq E a0 a1))

end Go.Proofs.Ytmebdbagcbgddaa.Am
