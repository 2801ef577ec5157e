import Derived.KernelRfl
import Derived.Test.YtfdcdbkblkehcaaReplaySerialF0
import Derived.Test.YtfdcdbkblkehcaaAmW
namespace Go.Proofs.Ytfdcdbkblkehcaa.Am
open Go
set_option linter.unusedVariables false
set_option maxRecDepth 100000
def impl_replayed_b1 : AC :=
 (.seq (.region 0 [⟨some 38, .bin .lss (.t 37) (.t 36), none⟩])
 (.seq (.cond (.t 38) .skip (.exit 2))
 (.seq (.block 3 (.seq (.region 0 [⟨some 39, .iaddr 2 (.t 35) (.t 37), none⟩,
  ⟨some 40, .load true 2 (.t 39), none⟩,
  ⟨some 12, .alloc 12 (.agg [(.int .i64 0), (.int .i64 0)]), none⟩,
  ⟨none, .store 2 (.t 12) (.t 40), none⟩])
 (.region 11 [⟨some 41, .mv (.t 6), none⟩,
  ⟨some 42, .faddr 0 0 (.t 12), none⟩,
  ⟨some 43, .load false 1 (.t 42), none⟩,
  ⟨some 44, .loadO (.sl 1) (.t 7), none⟩,
  ⟨some 45, .faddr 0 0 (.t 12), none⟩,
  ⟨some 46, .load false 1 (.t 45), none⟩,
  ⟨some 47, .faddr 1 1 (.t 12), none⟩,
  ⟨some 48, .load false 1 (.t 47), none⟩,
  ⟨some 49, .faddr 1 1 (.t 10), none⟩,
  ⟨some 50, .load false 1 (.t 49), none⟩,
  ⟨some 51, .iaddr 1 (.t 41) (.t 43), none⟩,
  ⟨none, .storeS 1 (.t 51) (.t 48) [(.t 7), (.t 45), (.t 49)], none⟩,
  ⟨some 52, .iaddr 1 (.t 44) (.t 46), none⟩,
  ⟨none, .store 1 (.t 52) (.t 50), none⟩])))
 (.region 0 [⟨some 53, .bin .add (.t 37) (.c (.int .i64 1)), none⟩,
  ⟨some 37, .mv (.t 53), none⟩]))))
def impl_replayed_r0 : AC :=
 (.region 0 [⟨some 54, .bin .add (.t 18) (.c (.int .i64 1)), none⟩,
  ⟨some 18, .mv (.t 54), none⟩])
def impl_replayed_b0 : AC :=
 (.seq (.region 0 [⟨some 19, .bin .lss (.t 18) (.t 17), none⟩])
 (.seq (.cond (.t 19) .skip (.exit 0))
 (.seq (.block 1 (.seq (.region 0 [⟨some 20, .mv (.t 18), none⟩,
  ⟨some 21, .iaddr 1 (.t 16) (.t 18), none⟩,
  ⟨some 22, .load false 1 (.t 21), none⟩,
  ⟨some 8, .mv (.t 20), none⟩,
  ⟨some 9, .mv (.t 22), none⟩])
 (.seq (.region 0 [⟨some 23, .mv (.t 0), none⟩,
  ⟨some 24, .mv (.t 0), none⟩,
  ⟨some 25, .mv (.t 9), none⟩,
  ⟨some 26, .call false 251 [(.t 24), (.t 25)], none⟩,
  ⟨some 27, .iaddr 4 (.t 23) (.t 26), none⟩,
  ⟨some 28, .load true 4 (.t 27), none⟩,
  ⟨some 10, .alloc 10 (.agg [(.int .i64 0), (.int .i64 0), (.nsl 2), (.nsl 2)]), none⟩,
  ⟨none, .store 4 (.t 10) (.t 28), none⟩])
 (.seq (.seq (.region 0 [⟨some 29, .faddr 2 2 (.t 10), none⟩,
  ⟨some 30, .load false 1 (.t 29), none⟩,
  ⟨some 31, .mkfn 256 [(.t 7)], none⟩,
  ⟨some 32, .call false 162 [(.t 30), (.t 31)], none⟩])
 (.cond (.t 32) (.seq (.region 0 [⟨some 33, .mv (.t 8), none⟩,
  ⟨some 4, .mv (.c (.nsl 1)), none⟩,
  ⟨some 5, .mv (.t 33), none⟩])
 .ret) .skip))
 (.seq (.region 0 [⟨some 34, .faddr 3 3 (.t 10), none⟩,
  ⟨some 35, .load false 1 (.t 34), none⟩,
  ⟨some 36, .len false (.t 35), none⟩,
  ⟨some 37, .mv (.c (.int .i64 0)), none⟩])
 (.block 2 (.loop ⟨[0, 7, 10, 16, 17, 18, 35, 36, 37], [(6, 1, true)], [(7, false), (10, false)]⟩ impl_replayed_b1)))))))
 impl_replayed_r0)))
def impl_replayed_r1 : AC :=
 (.seq (.region 0 [⟨some 55, .mv (.t 6), none⟩,
  ⟨some 4, .mv (.t 55), none⟩,
  ⟨some 5, .mv (.c (.int .i64 (-1))), none⟩])
 .ret)
def impl_replayed_ac : AC :=
 (.seq (.region 0 [⟨some 4, .mv (.c (.nsl 1)), none⟩,
  ⟨some 5, .mv (.c (.int .i64 0)), none⟩])
 (.seq (.regN 5 [14, 15, 7] [(0, 14), (2, 14), (3, 14), (0, 15), (1, 15), (3, 15), (4, 15), (0, 7), (1, 7), (2, 7)] [] [⟨some 13, .bslice 0 13 1 1 (.int .i64 0) [(0, (.c (.int .i64 (-1))))], none⟩,
  ⟨some 14, .callF 14 false [(.sl 1)] 257 [(.t 13), (.c (.int .i64 6))], none⟩,
  ⟨some 15, .mkslice 15 1 8 (.int .i64 0) (.c (.int .i64 6)) (.c (.int .i64 6)), none⟩,
  ⟨some 7, .alloc 7 (.nsl 1), none⟩,
  ⟨some 6, .mv (.t 14), none⟩,
  ⟨none, .storeM 3000 1 (.t 7) (.t 15), none⟩])
 (.seq (.seq (.region 0 [⟨some 16, .mv (.t 1), none⟩,
  ⟨some 17, .len false (.t 16), none⟩,
  ⟨some 18, .mv (.c (.int .i64 0)), none⟩])
 (.block 0 (.loop ⟨[0, 7, 16, 17, 18], [(6, 1, true)], [(7, false)]⟩ impl_replayed_b0)))
 impl_replayed_r1)))
noncomputable def impl_replayed_l0 (E : Env) (x0 : U) (x16 : U) (x17 : U) (x18 : U) (c6 : List U) (b7 : List U) : Option U := loopK (roundOf E ⟨[0, 7, 16, 17, 18], [(6, 1, true)], [(7, false)]⟩ impl_replayed_b0 (blockK 0 (seqK (fun s => exec E impl_replayed_r1 s (finish [(4, none), (5, none)])) (finish [(4, none), (5, none)])))) ([.val x0, .ptr 7 [], .val x16, .val x17, .val x18], [.vir (.own (.sl 1 c6)), .box (.asl 1 b7)])
noncomputable def impl_replayed_l1 (E : Env) (x0 : U) (x16 : U) (x17 : U) (x18 : U) (x35 : U) (x36 : U) (x37 : U) (c6 : List U) (b7 : List U) (b10 : U) : Option U := loopK (roundOf E ⟨[0, 7, 10, 16, 17, 18, 35, 36, 37], [(6, 1, true)], [(7, false), (10, false)]⟩ impl_replayed_b1 (blockK 2 (blockK 1 (seqK (fun s => exec E impl_replayed_r0 s (roundK ⟨[0, 7, 16, 17, 18], [(6, 1, true)], [(7, false)]⟩ (loopK (roundOf E ⟨[0, 7, 16, 17, 18], [(6, 1, true)], [(7, false)]⟩ impl_replayed_b0 (blockK 0 (seqK (fun s => exec E impl_replayed_r1 s (finish [(4, none), (5, none)])) (finish [(4, none), (5, none)]))))) (blockK 0 (seqK (fun s => exec E impl_replayed_r1 s (finish [(4, none), (5, none)])) (finish [(4, none), (5, none)]))))) (roundK ⟨[0, 7, 16, 17, 18], [(6, 1, true)], [(7, false)]⟩ (loopK (roundOf E ⟨[0, 7, 16, 17, 18], [(6, 1, true)], [(7, false)]⟩ impl_replayed_b0 (blockK 0 (seqK (fun s => exec E impl_replayed_r1 s (finish [(4, none), (5, none)])) (finish [(4, none), (5, none)]))))) (blockK 0 (seqK (fun s => exec E impl_replayed_r1 s (finish [(4, none), (5, none)])) (finish [(4, none), (5, none)])))))))) ([.val x0, .ptr 7 [], .ptr 10 [], .val x16, .val x17, .val x18, .val x35, .val x36, .val x37], [.vir (.own (.sl 1 c6)), .box (.asl 1 b7), .box (.val b10)])
theorem impl_replayed_l0_eq (E : Env) (x0 : U) (x16 : U) (x17 : U) (x18 : U) (c6 : List U) (b7 : List U) : impl_replayed_l0 E x0 x16 x17 x18 c6 b7 =
 (U.bin .lss x18 x17).bind fun t5 => U.asBool t5
 (U.asInt x18 fun n6 => U.elemAt 1 x16 n6 fun e7 => U.asVar false 1 e7 fun e8 => (E 251 [x0, e8]).bind fun t9 => U.asInt t9 fun n10 => U.elemAt 4 x0 n10 fun e11 => U.asVar true 4 e11 fun e12 => if storable (.val e12) = true ∧ e12.size = 4 then U.asAgg e12 fun us13 => if 2 = sizes (us13.take 2) then (us13[2]?).bind fun e14 => U.asVar false 1 e14 fun e15 => (E 162 [e15, (.fn 256 [(.vp (.sl 1 b7))])]).bind fun t16 => U.asFlat t16 fun t17 => U.asBool t17
 (U.noTup x18 fun x18 => some (.tup [(.nsl 1), x18]))
 (U.asAgg e12 fun us19 => if 3 = sizes (us19.take 3) then (us19[3]?).bind fun e20 => U.asVar false 1 e20 fun e21 => (U.lenOf false e21).bind fun n22 => impl_replayed_l1 E x0 x16 x17 x18 e21 (.int .i64 (n22 : Int)) (.int .i64 0) c6 b7 e12 else none) else none else none)
 (some (.tup [(.sl 1 c6), (.int .i64 (-1))])) :=
 (loop_eq E _ _ _ _).trans (by kernel_rfl)
theorem impl_replayed_l1_eq (E : Env) (x0 : U) (x16 : U) (x17 : U) (x18 : U) (x35 : U) (x36 : U) (x37 : U) (c6 : List U) (b7 : List U) (b10 : U) : impl_replayed_l1 E x0 x16 x17 x18 x35 x36 x37 c6 b7 b10 =
 (U.bin .lss x37 x36).bind fun t23 => U.asBool t23
 (U.asInt x37 fun n24 => U.elemAt 2 x35 n24 fun e25 => U.asVar true 2 e25 fun e26 => if storable (.val e26) = true ∧ e26.size = 2 then U.asAgg e26 fun us27 => if 0 = sizes (us27.take 0) then (us27[0]?).bind fun e28 => U.asVar false 1 e28 fun e29 => U.asAgg e26 fun us30 => if 0 = sizes (us30.take 0) then (us30[0]?).bind fun e31 => U.asVar false 1 e31 fun e32 => U.asAgg e26 fun us33 => if 1 = sizes (us33.take 1) then (us33[1]?).bind fun e34 => U.asVar false 1 e34 fun e35 => U.asAgg b10 fun us36 => if 1 = sizes (us36.take 1) then (us36[1]?).bind fun e37 => U.asVar false 1 e37 fun e38 => U.asInt e29 fun n39 => if 1 = 1 ∧ 0 ≤ n39 ∧ n39 < (c6.length : Int) then if storable (.val e35) = true ∧ e35.size = 1 then (c6[(n39 : Int).toNat]?).bind fun e40 => if e40.size = 1 then if (e35 : U).flat = true then U.asInt e32 fun n41 => if 1 = 1 ∧ 0 ≤ n41 ∧ n41 < ((b7).length : Int) then if storable (.val e38) = true ∧ e38.size = 1 then (b7[(n41 : Int).toNat]?).bind fun e42 => if e42.size = 1 then (U.bin .add x37 (.int .i64 1)).bind fun t43 => impl_replayed_l1 E x0 x16 x17 x18 x35 x36 t43 (c6.set (n39 : Int).toNat e35) (b7.set (n41 : Int).toNat e38) b10 else none else none else none else none else none else none else none else none else none else none else none else none)
 ((U.bin .add x18 (.int .i64 1)).bind fun t44 => impl_replayed_l0 E x0 x16 x17 t44 c6 b7) :=
 (loop_eq E _ _ _ _).trans (by kernel_rfl)
structure G_impl_replayed (E : Env) : Prop where
  is : Is E 246 2 impl_replayed_ac [(4, none), (5, none)]
  c_impl_FindEntry : G_impl_FindEntry E
  c_slices_ContainsFunc_g162 : G_slices_ContainsFunc_g162 E
  c_impl_replayed_1 : G_impl_replayed_1 E
  c_slices_Repeat_g257_F : G_slices_Repeat_g257_F E
theorem impl_replayed_E {E : Env} (h : G_impl_replayed E) (a0 a1 : U) : E 246 [a0, a1] =
 (E 100257 [(.sl 1 [(.int .i64 (-1))]), (.int .i64 6)]).bind fun t1 => U.noTup t1 fun x2 => U.asSlK 1 x2 fun us3 => if 0 ≤ 6 ∧ 6 ≤ 6 ∧ 6 * 8 ≤ 140737488355328 ∧ ((.int .i64 0) : U).size = 1 then (U.lenOf false a1).bind fun n4 => impl_replayed_l0 E a0 a1 (.int .i64 (n4 : Int)) (.int .i64 0) us3 (List.replicate (6 : Int).toNat (.int .i64 0)) else none := (h.is _ rfl).trans ((runQ_V rfl).trans (by kernel_rfl))
end Go.Proofs.Ytfdcdbkblkehcaa.Am
namespace Go.Proofs.Ytfdcdbkblkehcaa.Am
open Go
set_option linter.unusedVariables false
set_option maxRecDepth 100000
def impl_ReplaySerial_ac : AC :=
 (.seq (.region 0 [⟨some 4, .mv (.c (.nsl 1)), none⟩,
  ⟨some 5, .mv (.c (.bool false)), none⟩])
 (.seq (.seq (.region 0 [⟨some 8, .mv (.t 0), none⟩,
  ⟨some 9, .call false 247 [(.t 8)], none⟩,
  ⟨some 10, .un .not (.t 9), none⟩,
  ⟨some 11, .mv (.t 10), none⟩,
  ⟨some 12, .mv (.t 0), some (11, false)⟩,
  ⟨some 13, .mv (.t 1), some (11, false)⟩,
  ⟨some 14, .call false 248 [(.t 12), (.t 13)], some (11, false)⟩,
  ⟨some 15, .un .not (.t 14), some (11, false)⟩,
  ⟨some 16, .pick (.t 11) (.c (.bool true)) (.t 15), none⟩])
 (.cond (.t 16) (.seq (.region 0 [⟨some 4, .mv (.c (.nsl 1)), none⟩,
  ⟨some 5, .mv (.c (.bool false)), none⟩])
 .ret) .skip))
 (.seq (.region 0 [⟨some 18, .mv (.t 0), none⟩,
  ⟨some 19, .mv (.t 1), none⟩,
  ⟨some 20, .call false 246 [(.t 18), (.t 19)], none⟩,
  ⟨some 17, .mv (.t 20), none⟩,
  ⟨some 21, .extract 0 (.t 17), none⟩,
  ⟨some 22, .extract 1 (.t 17), none⟩,
  ⟨some 6, .mv (.t 21), none⟩,
  ⟨some 7, .mv (.t 22), none⟩])
 (.seq (.region 0 [⟨some 23, .mv (.t 6), none⟩,
  ⟨some 24, .mv (.t 7), none⟩,
  ⟨some 25, .bin .lss (.t 24) (.c (.int .i64 0)), none⟩,
  ⟨some 4, .mv (.t 23), none⟩,
  ⟨some 5, .mv (.t 25), none⟩])
 .ret))))
structure G_impl_ReplaySerial (E : Env) : Prop where
  is : Is E 283 2 impl_ReplaySerial_ac [(4, none), (5, none)]
  c_impl_IsHistory : G_impl_IsHistory E
  c_impl_isOrder : G_impl_isOrder E
  c_impl_replayed : G_impl_replayed E
theorem impl_ReplaySerial_E {E : Env} (h : G_impl_ReplaySerial E) (a0 a1 : U) : E 283 [a0, a1] =
 (E 247 [a0]).bind fun t1 => (U.un .not t1).bind fun t2 => U.asBool t2
 (some (.tup [(.nsl 1), (.bool false)]))
 ((E 248 [a0, a1]).bind fun t3 => (U.un .not t3).bind fun t4 => U.asBool t4
 (some (.tup [(.nsl 1), (.bool false)]))
 ((E 246 [a0, a1]).bind fun t5 => U.part 0 t5 fun p6 => U.part 1 t5 fun p7 => (U.bin .lss p7 (.int .i64 0)).bind fun t8 => U.noTup p6 fun x9 => U.noTup t8 fun x10 => some (.tup [x9, x10]))) := (h.is _ rfl).trans ((runQ_V rfl).trans (by kernel_rfl))
end Go.Proofs.Ytfdcdbkblkehcaa.Am
namespace Go.Proofs.Ytfdcdbkblkehcaa.Am
open Go
set_option linter.unusedVariables false
set_option maxRecDepth 100000
def laws_toReadMarkS_F_b0 : AC :=
 (.seq (.seq (.region 0 [⟨some 8, .mv (.t 4), none⟩,
  ⟨some 9, .mv (.t 0), none⟩,
  ⟨some 10, .len false (.t 9), none⟩,
  ⟨some 11, .bin .lss (.t 8) (.t 10), none⟩])
 (.cond (.t 11) .skip (.exit 0)))
 (.seq (.block 1 (.region 0 [⟨some 14, .mv (.t 3), none⟩,
  ⟨some 15, .mv (.t 4), none⟩,
  ⟨some 16, .mv (.t 0), none⟩,
  ⟨some 17, .mv (.t 4), none⟩,
  ⟨some 18, .iaddr 2 (.t 16) (.t 17), none⟩,
  ⟨some 19, .load true 2 (.t 18), none⟩,
  ⟨some 20, .call false 29 [(.t 19)], none⟩,
  ⟨some 21, .iaddr 2 (.t 14) (.t 15), none⟩,
  ⟨none, .store 2 (.t 21) (.t 20), none⟩]))
 (.region 0 [⟨some 12, .mv (.t 4), none⟩,
  ⟨some 13, .bin .add (.t 12) (.c (.int .i64 1)), none⟩,
  ⟨some 4, .mv (.t 13), none⟩])))
def laws_toReadMarkS_F_r0 : AC :=
 (.seq (.region 0 [⟨some 22, .mv (.t 3), none⟩,
  ⟨some 2, .mv (.t 22), none⟩])
 .ret)
def laws_toReadMarkS_F_ac : AC :=
 (.seq (.region 0 [⟨some 2, .mv (.c (.nsl 2)), none⟩])
 (.seq (.region 0 [⟨some 5, .mv (.t 0), none⟩,
  ⟨some 6, .len false (.t 5), none⟩,
  ⟨some 7, .mkslice 7 2 16 (.agg [(.int .i64 0), (.int .i64 0)]) (.t 6) (.t 6), none⟩,
  ⟨some 3, .mv (.t 7), none⟩])
 (.seq (.seq (.region 0 [⟨some 4, .mv (.c (.int .i64 0)), none⟩])
 (.block 0 (.loop ⟨[0, 4], [(3, 2, false)], []⟩ laws_toReadMarkS_F_b0)))
 laws_toReadMarkS_F_r0)))
noncomputable def laws_toReadMarkS_F_l0 (E : Env) (x0 : U) (x4 : U) (c3 : List U) : Option U := loopK (roundOf E ⟨[0, 4], [(3, 2, false)], []⟩ laws_toReadMarkS_F_b0 (blockK 0 (seqK (fun s => exec E laws_toReadMarkS_F_r0 s (finishF [(2, none)])) (finishF [(2, none)])))) ([.val x0, .val x4], [.vir (.asl 2 c3)])
theorem laws_toReadMarkS_F_l0_eq (E : Env) (x0 : U) (x4 : U) (c3 : List U) : laws_toReadMarkS_F_l0 E x0 x4 c3 =
 (U.lenOf false x0).bind fun n2 => (U.bin .lss x4 (.int .i64 (n2 : Int))).bind fun t3 => U.asBool t3
 (U.asInt x4 fun n4 => U.elemAt 2 x0 n4 fun e5 => U.asVar true 2 e5 fun e6 => (E 29 [e6]).bind fun t7 => U.asInt x4 fun n8 => if 2 = 2 ∧ 0 ≤ n8 ∧ n8 < ((c3).length : Int) then if storable (.val t7) = true ∧ t7.size = 2 then (c3[(n8 : Int).toNat]?).bind fun e9 => if e9.size = 2 then (U.bin .add x4 (.int .i64 1)).bind fun t10 => laws_toReadMarkS_F_l0 E x0 t10 (c3.set (n8 : Int).toNat t7) else none else none else none)
 (if U.flat.flats c3 = true then some (.sl 2 c3) else none) :=
 (loop_eq E _ _ _ _).trans (by kernel_rfl)
structure G_laws_toReadMarkS_F (E : Env) : Prop where
  is : Is E 100028 1 laws_toReadMarkS_F_ac [(2, none)]
  c_laws_toReadMark : G_laws_toReadMark E
theorem laws_toReadMarkS_F_E {E : Env} (h : G_laws_toReadMarkS_F E) (a0 : U) : E 100028 [a0] =
 (U.lenOf false a0).bind fun n1 => if 0 ≤ (n1 : Int) ∧ (n1 : Int) ≤ (n1 : Int) ∧ (n1 : Int) * 16 ≤ 140737488355328 ∧ ((.agg [(.int .i64 0), (.int .i64 0)]) : U).size = 2 then laws_toReadMarkS_F_l0 E a0 (.int .i64 0) (List.replicate ((n1 : Int) : Int).toNat (.agg [(.int .i64 0), (.int .i64 0)])) else none := (h.is _ rfl).trans ((runQ_F rfl).trans (by kernel_rfl))
end Go.Proofs.Ytfdcdbkblkehcaa.Am
namespace Go.Proofs.Ytfdcdbkblkehcaa.Am
open Go
set_option linter.unusedVariables false
set_option maxRecDepth 100000
def laws_toWriteS_F_b0 : AC :=
 (.seq (.seq (.region 0 [⟨some 8, .mv (.t 4), none⟩,
  ⟨some 9, .mv (.t 0), none⟩,
  ⟨some 10, .len false (.t 9), none⟩,
  ⟨some 11, .bin .lss (.t 8) (.t 10), none⟩])
 (.cond (.t 11) .skip (.exit 0)))
 (.seq (.block 1 (.region 0 [⟨some 14, .mv (.t 3), none⟩,
  ⟨some 15, .mv (.t 4), none⟩,
  ⟨some 16, .mv (.t 0), none⟩,
  ⟨some 17, .mv (.t 4), none⟩,
  ⟨some 18, .iaddr 2 (.t 16) (.t 17), none⟩,
  ⟨some 19, .load true 2 (.t 18), none⟩,
  ⟨some 20, .call false 30 [(.t 19)], none⟩,
  ⟨some 21, .iaddr 2 (.t 14) (.t 15), none⟩,
  ⟨none, .store 2 (.t 21) (.t 20), none⟩]))
 (.region 0 [⟨some 12, .mv (.t 4), none⟩,
  ⟨some 13, .bin .add (.t 12) (.c (.int .i64 1)), none⟩,
  ⟨some 4, .mv (.t 13), none⟩])))
def laws_toWriteS_F_r0 : AC :=
 (.seq (.region 0 [⟨some 22, .mv (.t 3), none⟩,
  ⟨some 2, .mv (.t 22), none⟩])
 .ret)
def laws_toWriteS_F_ac : AC :=
 (.seq (.region 0 [⟨some 2, .mv (.c (.nsl 2)), none⟩])
 (.seq (.region 0 [⟨some 5, .mv (.t 0), none⟩,
  ⟨some 6, .len false (.t 5), none⟩,
  ⟨some 7, .mkslice 7 2 16 (.agg [(.int .i64 0), (.int .i64 0)]) (.t 6) (.t 6), none⟩,
  ⟨some 3, .mv (.t 7), none⟩])
 (.seq (.seq (.region 0 [⟨some 4, .mv (.c (.int .i64 0)), none⟩])
 (.block 0 (.loop ⟨[0, 4], [(3, 2, false)], []⟩ laws_toWriteS_F_b0)))
 laws_toWriteS_F_r0)))
noncomputable def laws_toWriteS_F_l0 (E : Env) (x0 : U) (x4 : U) (c3 : List U) : Option U := loopK (roundOf E ⟨[0, 4], [(3, 2, false)], []⟩ laws_toWriteS_F_b0 (blockK 0 (seqK (fun s => exec E laws_toWriteS_F_r0 s (finishF [(2, none)])) (finishF [(2, none)])))) ([.val x0, .val x4], [.vir (.asl 2 c3)])
theorem laws_toWriteS_F_l0_eq (E : Env) (x0 : U) (x4 : U) (c3 : List U) : laws_toWriteS_F_l0 E x0 x4 c3 =
 (U.lenOf false x0).bind fun n2 => (U.bin .lss x4 (.int .i64 (n2 : Int))).bind fun t3 => U.asBool t3
 (U.asInt x4 fun n4 => U.elemAt 2 x0 n4 fun e5 => U.asVar true 2 e5 fun e6 => (E 30 [e6]).bind fun t7 => U.asInt x4 fun n8 => if 2 = 2 ∧ 0 ≤ n8 ∧ n8 < ((c3).length : Int) then if storable (.val t7) = true ∧ t7.size = 2 then (c3[(n8 : Int).toNat]?).bind fun e9 => if e9.size = 2 then (U.bin .add x4 (.int .i64 1)).bind fun t10 => laws_toWriteS_F_l0 E x0 t10 (c3.set (n8 : Int).toNat t7) else none else none else none)
 (if U.flat.flats c3 = true then some (.sl 2 c3) else none) :=
 (loop_eq E _ _ _ _).trans (by kernel_rfl)
structure G_laws_toWriteS_F (E : Env) : Prop where
  is : Is E 100027 1 laws_toWriteS_F_ac [(2, none)]
  c_laws_toWrite : G_laws_toWrite E
theorem laws_toWriteS_F_E {E : Env} (h : G_laws_toWriteS_F E) (a0 : U) : E 100027 [a0] =
 (U.lenOf false a0).bind fun n1 => if 0 ≤ (n1 : Int) ∧ (n1 : Int) ≤ (n1 : Int) ∧ (n1 : Int) * 16 ≤ 140737488355328 ∧ ((.agg [(.int .i64 0), (.int .i64 0)]) : U).size = 2 then laws_toWriteS_F_l0 E a0 (.int .i64 0) (List.replicate ((n1 : Int) : Int).toNat (.agg [(.int .i64 0), (.int .i64 0)])) else none := (h.is _ rfl).trans ((runQ_F rfl).trans (by kernel_rfl))
end Go.Proofs.Ytfdcdbkblkehcaa.Am
namespace Go.Proofs.Ytfdcdbkblkehcaa.Am
open Go
set_option linter.unusedVariables false
set_option maxRecDepth 100000
def laws_toEntry_F_ac : AC :=
 (.seq (.region 0 [⟨some 1, .box false 1 (.t 0), none⟩,
  ⟨some 2, .alloc 2 (.agg [(.int .i64 0), (.int .i64 0), (.nsl 2), (.nsl 2)]), none⟩])
 (.seq (.region 0 [⟨some 3, .alloc 3 (.agg [(.int .i64 0), (.int .i64 0), (.nsl 2), (.nsl 2)]), none⟩])
 (.seq (.region 0 [⟨some 4, .faddr 0 0 (.t 1), none⟩,
  ⟨some 5, .load false 1 (.t 4), none⟩,
  ⟨some 6, .faddr 0 0 (.t 3), none⟩,
  ⟨none, .store 1 (.t 6) (.t 5), none⟩])
 (.seq (.region 0 [⟨some 7, .faddr 1 1 (.t 1), none⟩,
  ⟨some 8, .load false 1 (.t 7), none⟩,
  ⟨some 9, .faddr 1 1 (.t 3), none⟩,
  ⟨none, .store 1 (.t 9) (.t 8), none⟩])
 (.seq (.region 0 [⟨some 10, .faddr 2 2 (.t 1), none⟩,
  ⟨some 11, .load false 1 (.t 10), none⟩,
  ⟨some 12, .callF 12 false [(.sl 2)] 28 [(.t 11)], none⟩,
  ⟨some 13, .faddr 2 2 (.t 3), none⟩,
  ⟨none, .storeM 3000 1 (.t 13) (.t 12), none⟩])
 (.seq (.region 0 [⟨some 14, .faddr 3 3 (.t 1), none⟩,
  ⟨some 15, .load false 1 (.t 14), none⟩,
  ⟨some 16, .callF 16 false [(.sl 2)] 27 [(.t 15)], none⟩,
  ⟨some 17, .faddr 3 3 (.t 3), none⟩,
  ⟨none, .storeM 3002 1 (.t 17) (.t 16), none⟩])
 (.seq (.region 0 [⟨some 18, .loadO (.agg [.int, .int, (.sl 2), (.sl 2)]) (.t 3), none⟩,
  ⟨none, .storeM 3001 4 (.t 2) (.t 18), none⟩])
 .ret)))))))
structure G_laws_toEntry_F (E : Env) : Prop where
  is : Is E 100051 1 laws_toEntry_F_ac [(2, some (true, 4))]
  c_laws_toReadMarkS_F : G_laws_toReadMarkS_F E
  c_laws_toWriteS_F : G_laws_toWriteS_F E
theorem laws_toEntry_F_E {E : Env} (h : G_laws_toEntry_F E) (a0 : U) : E 100051 [a0] =
 U.noTup a0 fun x1 => U.asAgg x1 fun us2 => if 0 = sizes (us2.take 0) then (us2[0]?).bind fun e3 => U.asVar false 1 e3 fun e4 => if storable (.val e4) = true ∧ e4.size = 1 then U.asAgg x1 fun us5 => if 1 = sizes (us5.take 1) then (us5[1]?).bind fun e6 => U.asVar false 1 e6 fun e7 => if storable (.val e7) = true ∧ e7.size = 1 then if 1 = sizes [e4] then U.asAgg x1 fun us8 => if 2 = sizes (us8.take 2) then (us8[2]?).bind fun e9 => U.asVar false 1 e9 fun e10 => (E 100028 [e10]).bind fun t11 => U.noTup t11 fun x12 => U.asSlK 2 x12 fun us13 => if 2 = sizes [e4, e7] then if 2 = sizes [e4, e7] then if 2 = dsizes [.val e4, .val e7] then U.asAgg x1 fun us14 => if 3 = sizes (us14.take 3) then (us14[3]?).bind fun e15 => U.asVar false 1 e15 fun e16 => (E 100027 [e16]).bind fun t17 => U.noTup t17 fun x18 => U.asSlK 2 x18 fun us19 => if 3 = dsizes [.val e4, .val e7, .own (.sl 2 us13)] then if 3 = dsizes [.val e4, .val e7, .own (.sl 2 us13)] then if 3 = dsizes [.val e4, .val e7, .own (.sl 2 us13)] then U.asInt e4 fun n20 => U.asInt e7 fun n21 => if 2 = dsizes [.val e4, .val e7] then if 2 = dsizes [.val e4, .val e7] then if 3 = dsizes [.val e4, .val e7, .junk 1] then if 3 = dsizes [.val e4, .val e7, .junk 1] then some (.agg [(.int .i64 n20), (.int .i64 n21), (.sl 2 us13), (.sl 2 us19)]) else none else none else none else none else none else none else none else none else none else none else none else none else none else none else none else none else none := (h.is _ rfl).trans ((runQ_F rfl).trans (by kernel_rfl))
end Go.Proofs.Ytfdcdbkblkehcaa.Am
namespace Go.Proofs.Ytfdcdbkblkehcaa.Am
open Go
set_option linter.unusedVariables false
set_option maxRecDepth 100000
def laws_toEntryS_F_b0 : AC :=
 (.seq (.seq (.region 0 [⟨some 8, .mv (.t 4), none⟩,
  ⟨some 9, .mv (.t 0), none⟩,
  ⟨some 10, .len false (.t 9), none⟩,
  ⟨some 11, .bin .lss (.t 8) (.t 10), none⟩])
 (.cond (.t 11) .skip (.exit 0)))
 (.seq (.block 1 (.region 0 [⟨some 14, .mv (.t 3), none⟩,
  ⟨some 15, .mv (.t 4), none⟩,
  ⟨some 16, .mv (.t 0), none⟩,
  ⟨some 17, .mv (.t 4), none⟩,
  ⟨some 18, .iaddr 4 (.t 16) (.t 17), none⟩,
  ⟨some 19, .load true 4 (.t 18), none⟩,
  ⟨some 20, .callF 20 false [(.agg [.int, .int, (.sl 2), (.sl 2)])] 51 [(.t 19)], none⟩,
  ⟨some 21, .iaddr 4 (.t 14) (.t 15), none⟩,
  ⟨none, .storeE 4 (.t 21) (.t 20), none⟩]))
 (.region 0 [⟨some 12, .mv (.t 4), none⟩,
  ⟨some 13, .bin .add (.t 12) (.c (.int .i64 1)), none⟩,
  ⟨some 4, .mv (.t 13), none⟩])))
def laws_toEntryS_F_r0 : AC :=
 (.seq (.region 0 [⟨some 22, .mv (.t 3), none⟩,
  ⟨some 2, .mv (.t 22), none⟩])
 .ret)
def laws_toEntryS_F_ac : AC :=
 (.seq (.region 0 [⟨some 2, .mv (.c (.nsl 4)), none⟩])
 (.seq (.region 0 [⟨some 5, .mv (.t 0), none⟩,
  ⟨some 6, .len false (.t 5), none⟩,
  ⟨some 7, .mkslice 7 4 64 (.agg [(.int .i64 0), (.int .i64 0), (.nsl 2), (.nsl 2)]) (.t 6) (.t 6), none⟩,
  ⟨some 3, .mv (.t 7), none⟩])
 (.seq (.seq (.region 0 [⟨some 4, .mv (.c (.int .i64 0)), none⟩])
 (.block 0 (.loop ⟨[0, 4], [(3, 4, true)], []⟩ laws_toEntryS_F_b0)))
 laws_toEntryS_F_r0)))
noncomputable def laws_toEntryS_F_l0 (E : Env) (x0 : U) (x4 : U) (c3 : List U) : Option U := loopK (roundOf E ⟨[0, 4], [(3, 4, true)], []⟩ laws_toEntryS_F_b0 (blockK 0 (seqK (fun s => exec E laws_toEntryS_F_r0 s (finishF [(2, none)])) (finishF [(2, none)])))) ([.val x0, .val x4], [.vir (.own (.sl 4 c3))])
theorem laws_toEntryS_F_l0_eq (E : Env) (x0 : U) (x4 : U) (c3 : List U) : laws_toEntryS_F_l0 E x0 x4 c3 =
 (U.lenOf false x0).bind fun n2 => (U.bin .lss x4 (.int .i64 (n2 : Int))).bind fun t3 => U.asBool t3
 (U.asInt x4 fun n4 => U.elemAt 4 x0 n4 fun e5 => U.asVar true 4 e5 fun e6 => (E 100051 [e6]).bind fun t7 => U.noTup t7 fun x8 => U.asAgg x8 fun us9 => (match us9 with
 | u10 :: us11 => (U.asInt u10 fun n12 => (match us11 with
 | u13 :: us14 => (U.asInt u13 fun n15 => (match us14 with
 | u16 :: us17 => (U.asSlK 2 u16 fun us18 => (match us17 with
 | u19 :: us20 => (U.asSlK 2 u19 fun us21 => (match us20 with
 | [] => (U.asInt x4 fun n22 => if 4 = 4 ∧ 0 ≤ n22 ∧ n22 < (c3.length : Int) then (c3[(n22 : Int).toNat]?).bind fun e23 => if e23.size = 4 then (U.bin .add x4 (.int .i64 1)).bind fun t24 => laws_toEntryS_F_l0 E x0 t24 (c3.set (n22 : Int).toNat (.agg [(.int .i64 n12), (.int .i64 n15), (.sl 2 us18), (.sl 2 us21)])) else none else none)
 | _ => none))
 | [] => none))
 | [] => none))
 | [] => none))
 | [] => none))
 (some (.sl 4 c3)) :=
 (loop_eq E _ _ _ _).trans (by kernel_rfl)
structure G_laws_toEntryS_F (E : Env) : Prop where
  is : Is E 100045 1 laws_toEntryS_F_ac [(2, none)]
  c_laws_toEntry_F : G_laws_toEntry_F E
theorem laws_toEntryS_F_E {E : Env} (h : G_laws_toEntryS_F E) (a0 : U) : E 100045 [a0] =
 (U.lenOf false a0).bind fun n1 => if 0 ≤ (n1 : Int) ∧ (n1 : Int) ≤ (n1 : Int) ∧ (n1 : Int) * 64 ≤ 140737488355328 ∧ ((.agg [(.int .i64 0), (.int .i64 0), (.nsl 2), (.nsl 2)]) : U).size = 4 then if U.flat.flats (List.replicate ((n1 : Int) : Int).toNat (.agg [(.int .i64 0), (.int .i64 0), (.nsl 2), (.nsl 2)])) = true then laws_toEntryS_F_l0 E a0 (.int .i64 0) (List.replicate ((n1 : Int) : Int).toNat (.agg [(.int .i64 0), (.int .i64 0), (.nsl 2), (.nsl 2)])) else none else none := (h.is _ rfl).trans ((runQ_F rfl).trans (by kernel_rfl))
end Go.Proofs.Ytfdcdbkblkehcaa.Am
namespace Go.Proofs.Ytfdcdbkblkehcaa.Am
open Go
set_option linter.unusedVariables false
set_option maxRecDepth 100000
def laws_toIntS_F_b0 : AC :=
 (.seq (.seq (.region 0 [⟨some 8, .mv (.t 4), none⟩,
  ⟨some 9, .mv (.t 0), none⟩,
  ⟨some 10, .len false (.t 9), none⟩,
  ⟨some 11, .bin .lss (.t 8) (.t 10), none⟩])
 (.cond (.t 11) .skip (.exit 0)))
 (.seq (.block 1 (.region 0 [⟨some 14, .mv (.t 3), none⟩,
  ⟨some 15, .mv (.t 4), none⟩,
  ⟨some 16, .mv (.t 0), none⟩,
  ⟨some 17, .mv (.t 4), none⟩,
  ⟨some 18, .iaddr 1 (.t 16) (.t 17), none⟩,
  ⟨some 19, .load false 1 (.t 18), none⟩,
  ⟨some 20, .iaddr 1 (.t 14) (.t 15), none⟩,
  ⟨none, .store 1 (.t 20) (.t 19), none⟩]))
 (.region 0 [⟨some 12, .mv (.t 4), none⟩,
  ⟨some 13, .bin .add (.t 12) (.c (.int .i64 1)), none⟩,
  ⟨some 4, .mv (.t 13), none⟩])))
def laws_toIntS_F_r0 : AC :=
 (.seq (.region 0 [⟨some 21, .mv (.t 3), none⟩,
  ⟨some 2, .mv (.t 21), none⟩])
 .ret)
def laws_toIntS_F_ac : AC :=
 (.seq (.region 0 [⟨some 2, .mv (.c (.nsl 1)), none⟩])
 (.seq (.region 0 [⟨some 5, .mv (.t 0), none⟩,
  ⟨some 6, .len false (.t 5), none⟩,
  ⟨some 7, .mkslice 7 1 8 (.int .i64 0) (.t 6) (.t 6), none⟩,
  ⟨some 3, .mv (.t 7), none⟩])
 (.seq (.seq (.region 0 [⟨some 4, .mv (.c (.int .i64 0)), none⟩])
 (.block 0 (.loop ⟨[0, 4], [(3, 1, false)], []⟩ laws_toIntS_F_b0)))
 laws_toIntS_F_r0)))
noncomputable def laws_toIntS_F_l0 (E : Env) (x0 : U) (x4 : U) (c3 : List U) : Option U := loopK (roundOf E ⟨[0, 4], [(3, 1, false)], []⟩ laws_toIntS_F_b0 (blockK 0 (seqK (fun s => exec E laws_toIntS_F_r0 s (finishF [(2, none)])) (finishF [(2, none)])))) ([.val x0, .val x4], [.vir (.asl 1 c3)])
theorem laws_toIntS_F_l0_eq (E : Env) (x0 : U) (x4 : U) (c3 : List U) : laws_toIntS_F_l0 E x0 x4 c3 =
 (U.lenOf false x0).bind fun n2 => (U.bin .lss x4 (.int .i64 (n2 : Int))).bind fun t3 => U.asBool t3
 (U.asInt x4 fun n4 => U.elemAt 1 x0 n4 fun e5 => U.asVar false 1 e5 fun e6 => U.asInt x4 fun n7 => if 1 = 1 ∧ 0 ≤ n7 ∧ n7 < ((c3).length : Int) then if storable (.val e6) = true ∧ e6.size = 1 then (c3[(n7 : Int).toNat]?).bind fun e8 => if e8.size = 1 then (U.bin .add x4 (.int .i64 1)).bind fun t9 => laws_toIntS_F_l0 E x0 t9 (c3.set (n7 : Int).toNat e6) else none else none else none)
 (if U.flat.flats c3 = true then some (.sl 1 c3) else none) :=
 (loop_eq E _ _ _ _).trans (by kernel_rfl)
structure G_laws_toIntS_F (E : Env) : Prop where
  is : Is E 100058 1 laws_toIntS_F_ac [(2, none)]
theorem laws_toIntS_F_E {E : Env} (h : G_laws_toIntS_F E) (a0 : U) : E 100058 [a0] =
 (U.lenOf false a0).bind fun n1 => if 0 ≤ (n1 : Int) ∧ (n1 : Int) ≤ (n1 : Int) ∧ (n1 : Int) * 8 ≤ 140737488355328 ∧ ((.int .i64 0) : U).size = 1 then laws_toIntS_F_l0 E a0 (.int .i64 0) (List.replicate ((n1 : Int) : Int).toNat (.int .i64 0)) else none := (h.is _ rfl).trans ((runQ_F rfl).trans (by kernel_rfl))
end Go.Proofs.Ytfdcdbkblkehcaa.Am
namespace Go.Proofs.Ytfdcdbkblkehcaa.Am
open Go
set_option linter.unusedVariables false
set_option maxRecDepth 100000
def impl_replayed_F_b1 : AC :=
 (.seq (.region 0 [⟨some 38, .bin .lss (.t 37) (.t 36), none⟩])
 (.seq (.cond (.t 38) .skip (.exit 2))
 (.seq (.block 3 (.seq (.region 0 [⟨some 39, .iaddr 2 (.t 35) (.t 37), none⟩,
  ⟨some 40, .load true 2 (.t 39), none⟩,
  ⟨some 12, .alloc 12 (.agg [(.int .i64 0), (.int .i64 0)]), none⟩,
  ⟨none, .store 2 (.t 12) (.t 40), none⟩])
 (.region 11 [⟨some 41, .mv (.t 6), none⟩,
  ⟨some 42, .faddr 0 0 (.t 12), none⟩,
  ⟨some 43, .load false 1 (.t 42), none⟩,
  ⟨some 44, .loadO (.sl 1) (.t 7), none⟩,
  ⟨some 45, .faddr 0 0 (.t 12), none⟩,
  ⟨some 46, .load false 1 (.t 45), none⟩,
  ⟨some 47, .faddr 1 1 (.t 12), none⟩,
  ⟨some 48, .load false 1 (.t 47), none⟩,
  ⟨some 49, .faddr 1 1 (.t 10), none⟩,
  ⟨some 50, .load false 1 (.t 49), none⟩,
  ⟨some 51, .iaddr 1 (.t 41) (.t 43), none⟩,
  ⟨none, .storeS 1 (.t 51) (.t 48) [(.t 7), (.t 45), (.t 49)], none⟩,
  ⟨some 52, .iaddr 1 (.t 44) (.t 46), none⟩,
  ⟨none, .store 1 (.t 52) (.t 50), none⟩])))
 (.region 0 [⟨some 53, .bin .add (.t 37) (.c (.int .i64 1)), none⟩,
  ⟨some 37, .mv (.t 53), none⟩]))))
def impl_replayed_F_r0 : AC :=
 (.region 0 [⟨some 54, .bin .add (.t 18) (.c (.int .i64 1)), none⟩,
  ⟨some 18, .mv (.t 54), none⟩])
def impl_replayed_F_b0 : AC :=
 (.seq (.region 0 [⟨some 19, .bin .lss (.t 18) (.t 17), none⟩])
 (.seq (.cond (.t 19) .skip (.exit 0))
 (.seq (.block 1 (.seq (.region 0 [⟨some 20, .mv (.t 18), none⟩,
  ⟨some 21, .iaddr 1 (.t 16) (.t 18), none⟩,
  ⟨some 22, .load false 1 (.t 21), none⟩,
  ⟨some 8, .mv (.t 20), none⟩,
  ⟨some 9, .mv (.t 22), none⟩])
 (.seq (.region 0 [⟨some 23, .mv (.t 0), none⟩,
  ⟨some 24, .mv (.t 0), none⟩,
  ⟨some 25, .mv (.t 9), none⟩,
  ⟨some 26, .call false 251 [(.t 24), (.t 25)], none⟩,
  ⟨some 27, .iaddr 4 (.t 23) (.t 26), none⟩,
  ⟨some 28, .load true 4 (.t 27), none⟩,
  ⟨some 10, .alloc 10 (.agg [(.int .i64 0), (.int .i64 0), (.nsl 2), (.nsl 2)]), none⟩,
  ⟨none, .store 4 (.t 10) (.t 28), none⟩])
 (.seq (.seq (.region 0 [⟨some 29, .faddr 2 2 (.t 10), none⟩,
  ⟨some 30, .load false 1 (.t 29), none⟩,
  ⟨some 31, .mkfn 256 [(.t 7)], none⟩,
  ⟨some 32, .call false 162 [(.t 30), (.t 31)], none⟩])
 (.cond (.t 32) (.seq (.region 0 [⟨some 33, .mv (.t 8), none⟩,
  ⟨some 4, .mv (.c (.nsl 1)), none⟩,
  ⟨some 5, .mv (.t 33), none⟩])
 .ret) .skip))
 (.seq (.region 0 [⟨some 34, .faddr 3 3 (.t 10), none⟩,
  ⟨some 35, .load false 1 (.t 34), none⟩,
  ⟨some 36, .len false (.t 35), none⟩,
  ⟨some 37, .mv (.c (.int .i64 0)), none⟩])
 (.block 2 (.loop ⟨[0, 7, 10, 16, 17, 18, 35, 36, 37], [(6, 1, true)], [(7, false), (10, false)]⟩ impl_replayed_F_b1)))))))
 impl_replayed_F_r0)))
def impl_replayed_F_r1 : AC :=
 (.seq (.region 0 [⟨some 55, .mv (.t 6), none⟩,
  ⟨some 4, .mv (.t 55), none⟩,
  ⟨some 5, .mv (.c (.int .i64 (-1))), none⟩])
 .ret)
def impl_replayed_F_ac : AC :=
 (.seq (.region 0 [⟨some 4, .mv (.c (.nsl 1)), none⟩,
  ⟨some 5, .mv (.c (.int .i64 0)), none⟩])
 (.seq (.regN 5 [14, 15, 7] [(0, 14), (2, 14), (3, 14), (0, 15), (1, 15), (3, 15), (4, 15), (0, 7), (1, 7), (2, 7)] [] [⟨some 13, .bslice 0 13 1 1 (.int .i64 0) [(0, (.c (.int .i64 (-1))))], none⟩,
  ⟨some 14, .callF 14 false [(.sl 1)] 257 [(.t 13), (.c (.int .i64 6))], none⟩,
  ⟨some 15, .mkslice 15 1 8 (.int .i64 0) (.c (.int .i64 6)) (.c (.int .i64 6)), none⟩,
  ⟨some 7, .alloc 7 (.nsl 1), none⟩,
  ⟨some 6, .mv (.t 14), none⟩,
  ⟨none, .storeM 3000 1 (.t 7) (.t 15), none⟩])
 (.seq (.seq (.region 0 [⟨some 16, .mv (.t 1), none⟩,
  ⟨some 17, .len false (.t 16), none⟩,
  ⟨some 18, .mv (.c (.int .i64 0)), none⟩])
 (.block 0 (.loop ⟨[0, 7, 16, 17, 18], [(6, 1, true)], [(7, false)]⟩ impl_replayed_F_b0)))
 impl_replayed_F_r1)))
noncomputable def impl_replayed_F_l0 (E : Env) (x0 : U) (x16 : U) (x17 : U) (x18 : U) (c6 : List U) (b7 : List U) : Option U := loopK (roundOf E ⟨[0, 7, 16, 17, 18], [(6, 1, true)], [(7, false)]⟩ impl_replayed_F_b0 (blockK 0 (seqK (fun s => exec E impl_replayed_F_r1 s (finishF [(4, none), (5, none)])) (finishF [(4, none), (5, none)])))) ([.val x0, .ptr 7 [], .val x16, .val x17, .val x18], [.vir (.own (.sl 1 c6)), .box (.asl 1 b7)])
noncomputable def impl_replayed_F_l1 (E : Env) (x0 : U) (x16 : U) (x17 : U) (x18 : U) (x35 : U) (x36 : U) (x37 : U) (c6 : List U) (b7 : List U) (b10 : U) : Option U := loopK (roundOf E ⟨[0, 7, 10, 16, 17, 18, 35, 36, 37], [(6, 1, true)], [(7, false), (10, false)]⟩ impl_replayed_F_b1 (blockK 2 (blockK 1 (seqK (fun s => exec E impl_replayed_F_r0 s (roundK ⟨[0, 7, 16, 17, 18], [(6, 1, true)], [(7, false)]⟩ (loopK (roundOf E ⟨[0, 7, 16, 17, 18], [(6, 1, true)], [(7, false)]⟩ impl_replayed_F_b0 (blockK 0 (seqK (fun s => exec E impl_replayed_F_r1 s (finishF [(4, none), (5, none)])) (finishF [(4, none), (5, none)]))))) (blockK 0 (seqK (fun s => exec E impl_replayed_F_r1 s (finishF [(4, none), (5, none)])) (finishF [(4, none), (5, none)]))))) (roundK ⟨[0, 7, 16, 17, 18], [(6, 1, true)], [(7, false)]⟩ (loopK (roundOf E ⟨[0, 7, 16, 17, 18], [(6, 1, true)], [(7, false)]⟩ impl_replayed_F_b0 (blockK 0 (seqK (fun s => exec E impl_replayed_F_r1 s (finishF [(4, none), (5, none)])) (finishF [(4, none), (5, none)]))))) (blockK 0 (seqK (fun s => exec E impl_replayed_F_r1 s (finishF [(4, none), (5, none)])) (finishF [(4, none), (5, none)])))))))) ([.val x0, .ptr 7 [], .ptr 10 [], .val x16, .val x17, .val x18, .val x35, .val x36, .val x37], [.vir (.own (.sl 1 c6)), .box (.asl 1 b7), .box (.val b10)])
theorem impl_replayed_F_l0_eq (E : Env) (x0 : U) (x16 : U) (x17 : U) (x18 : U) (c6 : List U) (b7 : List U) : impl_replayed_F_l0 E x0 x16 x17 x18 c6 b7 =
 (U.bin .lss x18 x17).bind fun t5 => U.asBool t5
 (U.asInt x18 fun n6 => U.elemAt 1 x16 n6 fun e7 => U.asVar false 1 e7 fun e8 => (E 251 [x0, e8]).bind fun t9 => U.asInt t9 fun n10 => U.elemAt 4 x0 n10 fun e11 => U.asVar true 4 e11 fun e12 => if storable (.val e12) = true ∧ e12.size = 4 then U.asAgg e12 fun us13 => if 2 = sizes (us13.take 2) then (us13[2]?).bind fun e14 => U.asVar false 1 e14 fun e15 => (E 162 [e15, (.fn 256 [(.vp (.sl 1 b7))])]).bind fun t16 => U.asFlat t16 fun t17 => U.asBool t17
 (U.ownV x18 fun w18 => some (.tup [(.sl 1 []), w18]))
 (U.asAgg e12 fun us19 => if 3 = sizes (us19.take 3) then (us19[3]?).bind fun e20 => U.asVar false 1 e20 fun e21 => (U.lenOf false e21).bind fun n22 => impl_replayed_F_l1 E x0 x16 x17 x18 e21 (.int .i64 (n22 : Int)) (.int .i64 0) c6 b7 e12 else none) else none else none)
 (some (.tup [(.sl 1 c6), (.int .i64 (-1))])) :=
 (loop_eq E _ _ _ _).trans (by kernel_rfl)
theorem impl_replayed_F_l1_eq (E : Env) (x0 : U) (x16 : U) (x17 : U) (x18 : U) (x35 : U) (x36 : U) (x37 : U) (c6 : List U) (b7 : List U) (b10 : U) : impl_replayed_F_l1 E x0 x16 x17 x18 x35 x36 x37 c6 b7 b10 =
 (U.bin .lss x37 x36).bind fun t23 => U.asBool t23
 (U.asInt x37 fun n24 => U.elemAt 2 x35 n24 fun e25 => U.asVar true 2 e25 fun e26 => if storable (.val e26) = true ∧ e26.size = 2 then U.asAgg e26 fun us27 => if 0 = sizes (us27.take 0) then (us27[0]?).bind fun e28 => U.asVar false 1 e28 fun e29 => U.asAgg e26 fun us30 => if 0 = sizes (us30.take 0) then (us30[0]?).bind fun e31 => U.asVar false 1 e31 fun e32 => U.asAgg e26 fun us33 => if 1 = sizes (us33.take 1) then (us33[1]?).bind fun e34 => U.asVar false 1 e34 fun e35 => U.asAgg b10 fun us36 => if 1 = sizes (us36.take 1) then (us36[1]?).bind fun e37 => U.asVar false 1 e37 fun e38 => U.asInt e29 fun n39 => if 1 = 1 ∧ 0 ≤ n39 ∧ n39 < (c6.length : Int) then if storable (.val e35) = true ∧ e35.size = 1 then (c6[(n39 : Int).toNat]?).bind fun e40 => if e40.size = 1 then if (e35 : U).flat = true then U.asInt e32 fun n41 => if 1 = 1 ∧ 0 ≤ n41 ∧ n41 < ((b7).length : Int) then if storable (.val e38) = true ∧ e38.size = 1 then (b7[(n41 : Int).toNat]?).bind fun e42 => if e42.size = 1 then (U.bin .add x37 (.int .i64 1)).bind fun t43 => impl_replayed_F_l1 E x0 x16 x17 x18 x35 x36 t43 (c6.set (n39 : Int).toNat e35) (b7.set (n41 : Int).toNat e38) b10 else none else none else none else none else none else none else none else none else none else none else none else none)
 ((U.bin .add x18 (.int .i64 1)).bind fun t44 => impl_replayed_F_l0 E x0 x16 x17 t44 c6 b7) :=
 (loop_eq E _ _ _ _).trans (by kernel_rfl)
structure G_impl_replayed_F (E : Env) : Prop where
  is : Is E 100246 2 impl_replayed_F_ac [(4, none), (5, none)]
  c_impl_FindEntry : G_impl_FindEntry E
  c_slices_ContainsFunc_g162 : G_slices_ContainsFunc_g162 E
  c_impl_replayed_1 : G_impl_replayed_1 E
  c_slices_Repeat_g257_F : G_slices_Repeat_g257_F E
theorem impl_replayed_F_E {E : Env} (h : G_impl_replayed_F E) (a0 a1 : U) : E 100246 [a0, a1] =
 (E 100257 [(.sl 1 [(.int .i64 (-1))]), (.int .i64 6)]).bind fun t1 => U.noTup t1 fun x2 => U.asSlK 1 x2 fun us3 => if 0 ≤ 6 ∧ 6 ≤ 6 ∧ 6 * 8 ≤ 140737488355328 ∧ ((.int .i64 0) : U).size = 1 then (U.lenOf false a1).bind fun n4 => impl_replayed_F_l0 E a0 a1 (.int .i64 (n4 : Int)) (.int .i64 0) us3 (List.replicate (6 : Int).toNat (.int .i64 0)) else none := (h.is _ rfl).trans ((runQ_F rfl).trans (by kernel_rfl))
end Go.Proofs.Ytfdcdbkblkehcaa.Am
namespace Go.Proofs.Ytfdcdbkblkehcaa.Am
open Go
set_option linter.unusedVariables false
set_option maxRecDepth 100000
def impl_ReplaySerial_F_ac : AC :=
 (.seq (.region 0 [⟨some 4, .mv (.c (.nsl 1)), none⟩,
  ⟨some 5, .mv (.c (.bool false)), none⟩])
 (.seq (.seq (.region 0 [⟨some 8, .mv (.t 0), none⟩,
  ⟨some 9, .call false 247 [(.t 8)], none⟩,
  ⟨some 10, .un .not (.t 9), none⟩,
  ⟨some 11, .mv (.t 10), none⟩,
  ⟨some 12, .mv (.t 0), some (11, false)⟩,
  ⟨some 13, .mv (.t 1), some (11, false)⟩,
  ⟨some 14, .call false 248 [(.t 12), (.t 13)], some (11, false)⟩,
  ⟨some 15, .un .not (.t 14), some (11, false)⟩,
  ⟨some 16, .pick (.t 11) (.c (.bool true)) (.t 15), none⟩])
 (.cond (.t 16) (.seq (.region 0 [⟨some 4, .mv (.c (.nsl 1)), none⟩,
  ⟨some 5, .mv (.c (.bool false)), none⟩])
 .ret) .skip))
 (.seq (.region 0 [⟨some 18, .mv (.t 0), none⟩,
  ⟨some 19, .mv (.t 1), none⟩,
  ⟨some 20, .callF 20 true [(.sl 1), .int] 246 [(.t 18), (.t 19)], none⟩,
  ⟨some 17, .mv (.t 20), none⟩,
  ⟨some 21, .extract 0 (.t 17), none⟩,
  ⟨some 22, .extract 1 (.t 17), none⟩,
  ⟨some 6, .mv (.t 21), none⟩,
  ⟨some 7, .mv (.t 22), none⟩])
 (.seq (.region 0 [⟨some 23, .mv (.t 6), none⟩,
  ⟨some 24, .mv (.t 7), none⟩,
  ⟨some 25, .bin .lss (.t 24) (.c (.int .i64 0)), none⟩,
  ⟨some 4, .mv (.t 23), none⟩,
  ⟨some 5, .mv (.t 25), none⟩])
 .ret))))
structure G_impl_ReplaySerial_F (E : Env) : Prop where
  is : Is E 100283 2 impl_ReplaySerial_F_ac [(4, none), (5, none)]
  c_impl_IsHistory : G_impl_IsHistory E
  c_impl_isOrder : G_impl_isOrder E
  c_impl_replayed_F : G_impl_replayed_F E
theorem impl_ReplaySerial_F_E {E : Env} (h : G_impl_ReplaySerial_F E) (a0 a1 : U) : E 100283 [a0, a1] =
 (E 247 [a0]).bind fun t1 => (U.un .not t1).bind fun t2 => U.asBool t2
 (some (.tup [(.sl 1 []), (.bool false)]))
 ((E 248 [a0, a1]).bind fun t3 => (U.un .not t3).bind fun t4 => U.asBool t4
 (some (.tup [(.sl 1 []), (.bool false)]))
 ((E 100246 [a0, a1]).bind fun t5 => U.asTup t5 fun us6 => (match us6 with
 | u7 :: us8 => (U.asSlK 1 u7 fun us9 => (match us8 with
 | u10 :: us11 => (U.asInt u10 fun n12 => (match us11 with
 | [] => ((U.bin .lss (.int .i64 n12) (.int .i64 0)).bind fun t13 => U.ownV t13 fun w14 => some (.tup [(.sl 1 us9), w14]))
 | _ => none))
 | [] => none))
 | [] => none))) := (h.is _ rfl).trans ((runQ_F rfl).trans (by kernel_rfl))
end Go.Proofs.Ytfdcdbkblkehcaa.Am
namespace Go.Proofs.Ytfdcdbkblkehcaa.Am
open Go
set_option linter.unusedVariables false
set_option maxRecDepth 100000
def laws_markReadMarkS_M_b0 : AC :=
 (.seq (.seq (.region 0 [⟨some 6, .mv (.t 5), none⟩,
  ⟨some 7, .mv (.t 0), none⟩,
  ⟨some 8, .len false (.t 7), none⟩,
  ⟨some 9, .bin .lss (.t 6) (.t 8), none⟩])
 (.cond (.t 9) .skip (.exit 0)))
 (.seq (.block 1 (.seq (.region 0 [⟨some 12, .mv (.t 0), none⟩,
  ⟨some 13, .mv (.t 5), none⟩,
  ⟨some 14, .mv (.t 1), none⟩,
  ⟨some 15, .iaddr 2 (.t 12) (.t 13), none⟩,
  ⟨some 16, .faddr 0 0 (.t 15), none⟩,
  ⟨none, .store 1 (.t 16) (.t 14), none⟩])
 (.seq (.region 0 [⟨some 17, .mv (.t 1), none⟩,
  ⟨some 18, .bin .add (.t 17) (.c (.int .i64 1)), none⟩,
  ⟨some 1, .mv (.t 18), none⟩])
 (.seq (.region 0 [⟨some 19, .mv (.t 0), none⟩,
  ⟨some 20, .mv (.t 5), none⟩,
  ⟨some 21, .mv (.t 1), none⟩,
  ⟨some 22, .iaddr 2 (.t 19) (.t 20), none⟩,
  ⟨some 23, .faddr 1 1 (.t 22), none⟩,
  ⟨none, .store 1 (.t 23) (.t 21), none⟩])
 (.region 0 [⟨some 24, .mv (.t 1), none⟩,
  ⟨some 25, .bin .add (.t 24) (.c (.int .i64 1)), none⟩,
  ⟨some 1, .mv (.t 25), none⟩])))))
 (.region 0 [⟨some 10, .mv (.t 5), none⟩,
  ⟨some 11, .bin .add (.t 10) (.c (.int .i64 1)), none⟩,
  ⟨some 5, .mv (.t 11), none⟩])))
def laws_markReadMarkS_M_r0 : AC :=
 (.seq (.region 0 [⟨some 26, .mv (.t 1), none⟩,
  ⟨some 4, .mv (.t 26), none⟩])
 .ret)
def laws_markReadMarkS_M_ac : AC :=
 (.seq (.region 0 [⟨some 4, .mv (.c (.int .i64 0)), none⟩])
 (.seq (.seq (.region 0 [⟨some 5, .mv (.c (.int .i64 0)), none⟩])
 (.block 0 (.loop ⟨[0, 1, 5], [], [(5000, true)]⟩ laws_markReadMarkS_M_b0)))
 laws_markReadMarkS_M_r0))
noncomputable def laws_markReadMarkS_M_l0 (E : Env) (x1 : U) (x5 : U) (b5000 : List U) : Option U := loopK (roundOf E ⟨[0, 1, 5], [], [(5000, true)]⟩ laws_markReadMarkS_M_b0 (blockK 0 (seqK (fun s => exec E laws_markReadMarkS_M_r0 s (finishM 2 [(4, none)])) (finishM 2 [(4, none)])))) ([.ref 5000 [] 2 none, .val x1, .val x5], [.vir (.own (.sl 2 b5000))])
theorem laws_markReadMarkS_M_l0_eq (E : Env) (x1 : U) (x5 : U) (b5000 : List U) : laws_markReadMarkS_M_l0 E x1 x5 b5000 =
 (U.bin .lss x5 (.int .i64 (b5000.length : Int))).bind fun t1 => U.asBool t1
 (U.asInt x5 fun n2 => if 2 = 2 ∧ 0 ≤ n2 ∧ n2 < (b5000.length : Int) then if storable (.val x1) = true ∧ x1.size = 1 then (b5000[(n2 : Int).toNat]?).bind fun e3 => U.asAgg e3 fun us4 => if 0 = sizes (us4.take 0) then (us4[0]?).bind fun e5 => if e5.size = 1 then if (x1 : U).flat = true then (U.bin .add x1 (.int .i64 1)).bind fun t6 => U.asInt x5 fun n7 => if 2 = 2 ∧ 0 ≤ n7 ∧ n7 < (((b5000.set (n2 : Int).toNat (.agg (us4.set 0 x1)))).length : Int) then if storable (.val t6) = true ∧ t6.size = 1 then ((b5000.set (n2 : Int).toNat (.agg (us4.set 0 x1)))[(n7 : Int).toNat]?).bind fun e8 => U.asAgg e8 fun us9 => if 1 = sizes (us9.take 1) then (us9[1]?).bind fun e10 => if e10.size = 1 then if (t6 : U).flat = true then (U.bin .add t6 (.int .i64 1)).bind fun t11 => (U.bin .add x5 (.int .i64 1)).bind fun t12 => laws_markReadMarkS_M_l0 E t11 t12 ((b5000.set (n2 : Int).toNat (.agg (us4.set 0 x1))).set (n7 : Int).toNat (.agg (us9.set 1 t6))) else none else none else none else none else none else none else none else none else none else none)
 (if (x1 : U).flat = true then some (.tup [x1, .sl 2 b5000]) else none) :=
 (loop_eq E _ _ _ _).trans (by kernel_rfl)
structure G_laws_markReadMarkS_M (E : Env) : Prop where
  is : Is E 200095 2 laws_markReadMarkS_M_ac [(4, none)]
theorem laws_markReadMarkS_M_E {E : Env} (h : G_laws_markReadMarkS_M E) (xs0 : List U) (a1 : U) : E 200095 (.agg [.tup [.sl 2 xs0]] :: [a1]) =
 laws_markReadMarkS_M_l0 E a1 (.int .i64 0) xs0 := (h.is _ rfl).trans ((runQ_M rfl).trans (by kernel_rfl))
end Go.Proofs.Ytfdcdbkblkehcaa.Am
namespace Go.Proofs.Ytfdcdbkblkehcaa.Am
open Go
set_option linter.unusedVariables false
set_option maxRecDepth 100000
def laws_markWriteS_M_b0 : AC :=
 (.seq (.seq (.region 0 [⟨some 6, .mv (.t 5), none⟩,
  ⟨some 7, .mv (.t 0), none⟩,
  ⟨some 8, .len false (.t 7), none⟩,
  ⟨some 9, .bin .lss (.t 6) (.t 8), none⟩])
 (.cond (.t 9) .skip (.exit 0)))
 (.seq (.block 1 (.seq (.region 0 [⟨some 12, .mv (.t 0), none⟩,
  ⟨some 13, .mv (.t 5), none⟩,
  ⟨some 14, .mv (.t 1), none⟩,
  ⟨some 15, .iaddr 2 (.t 12) (.t 13), none⟩,
  ⟨some 16, .faddr 0 0 (.t 15), none⟩,
  ⟨none, .store 1 (.t 16) (.t 14), none⟩])
 (.seq (.region 0 [⟨some 17, .mv (.t 1), none⟩,
  ⟨some 18, .bin .add (.t 17) (.c (.int .i64 1)), none⟩,
  ⟨some 1, .mv (.t 18), none⟩])
 (.seq (.region 0 [⟨some 19, .mv (.t 0), none⟩,
  ⟨some 20, .mv (.t 5), none⟩,
  ⟨some 21, .mv (.t 1), none⟩,
  ⟨some 22, .iaddr 2 (.t 19) (.t 20), none⟩,
  ⟨some 23, .faddr 1 1 (.t 22), none⟩,
  ⟨none, .store 1 (.t 23) (.t 21), none⟩])
 (.region 0 [⟨some 24, .mv (.t 1), none⟩,
  ⟨some 25, .bin .add (.t 24) (.c (.int .i64 1)), none⟩,
  ⟨some 1, .mv (.t 25), none⟩])))))
 (.region 0 [⟨some 10, .mv (.t 5), none⟩,
  ⟨some 11, .bin .add (.t 10) (.c (.int .i64 1)), none⟩,
  ⟨some 5, .mv (.t 11), none⟩])))
def laws_markWriteS_M_r0 : AC :=
 (.seq (.region 0 [⟨some 26, .mv (.t 1), none⟩,
  ⟨some 4, .mv (.t 26), none⟩])
 .ret)
def laws_markWriteS_M_ac : AC :=
 (.seq (.region 0 [⟨some 4, .mv (.c (.int .i64 0)), none⟩])
 (.seq (.seq (.region 0 [⟨some 5, .mv (.c (.int .i64 0)), none⟩])
 (.block 0 (.loop ⟨[0, 1, 5], [], [(5000, true)]⟩ laws_markWriteS_M_b0)))
 laws_markWriteS_M_r0))
noncomputable def laws_markWriteS_M_l0 (E : Env) (x1 : U) (x5 : U) (b5000 : List U) : Option U := loopK (roundOf E ⟨[0, 1, 5], [], [(5000, true)]⟩ laws_markWriteS_M_b0 (blockK 0 (seqK (fun s => exec E laws_markWriteS_M_r0 s (finishM 2 [(4, none)])) (finishM 2 [(4, none)])))) ([.ref 5000 [] 2 none, .val x1, .val x5], [.vir (.own (.sl 2 b5000))])
theorem laws_markWriteS_M_l0_eq (E : Env) (x1 : U) (x5 : U) (b5000 : List U) : laws_markWriteS_M_l0 E x1 x5 b5000 =
 (U.bin .lss x5 (.int .i64 (b5000.length : Int))).bind fun t1 => U.asBool t1
 (U.asInt x5 fun n2 => if 2 = 2 ∧ 0 ≤ n2 ∧ n2 < (b5000.length : Int) then if storable (.val x1) = true ∧ x1.size = 1 then (b5000[(n2 : Int).toNat]?).bind fun e3 => U.asAgg e3 fun us4 => if 0 = sizes (us4.take 0) then (us4[0]?).bind fun e5 => if e5.size = 1 then if (x1 : U).flat = true then (U.bin .add x1 (.int .i64 1)).bind fun t6 => U.asInt x5 fun n7 => if 2 = 2 ∧ 0 ≤ n7 ∧ n7 < (((b5000.set (n2 : Int).toNat (.agg (us4.set 0 x1)))).length : Int) then if storable (.val t6) = true ∧ t6.size = 1 then ((b5000.set (n2 : Int).toNat (.agg (us4.set 0 x1)))[(n7 : Int).toNat]?).bind fun e8 => U.asAgg e8 fun us9 => if 1 = sizes (us9.take 1) then (us9[1]?).bind fun e10 => if e10.size = 1 then if (t6 : U).flat = true then (U.bin .add t6 (.int .i64 1)).bind fun t11 => (U.bin .add x5 (.int .i64 1)).bind fun t12 => laws_markWriteS_M_l0 E t11 t12 ((b5000.set (n2 : Int).toNat (.agg (us4.set 0 x1))).set (n7 : Int).toNat (.agg (us9.set 1 t6))) else none else none else none else none else none else none else none else none else none else none)
 (if (x1 : U).flat = true then some (.tup [x1, .sl 2 b5000]) else none) :=
 (loop_eq E _ _ _ _).trans (by kernel_rfl)
structure G_laws_markWriteS_M (E : Env) : Prop where
  is : Is E 200232 2 laws_markWriteS_M_ac [(4, none)]
theorem laws_markWriteS_M_E {E : Env} (h : G_laws_markWriteS_M E) (xs0 : List U) (a1 : U) : E 200232 (.agg [.tup [.sl 2 xs0]] :: [a1]) =
 laws_markWriteS_M_l0 E a1 (.int .i64 0) xs0 := (h.is _ rfl).trans ((runQ_M rfl).trans (by kernel_rfl))
end Go.Proofs.Ytfdcdbkblkehcaa.Am
namespace Go.Proofs.Ytfdcdbkblkehcaa.Am
open Go
set_option linter.unusedVariables false
set_option maxRecDepth 100000
def laws_markEntryS_M_b0 : AC :=
 (.seq (.seq (.region 0 [⟨some 6, .mv (.t 5), none⟩,
  ⟨some 7, .mv (.t 0), none⟩,
  ⟨some 8, .len false (.t 7), none⟩,
  ⟨some 9, .bin .lss (.t 6) (.t 8), none⟩])
 (.cond (.t 9) .skip (.exit 0)))
 (.seq (.block 1 (.seq (.region 0 [⟨some 12, .mv (.t 0), none⟩,
  ⟨some 13, .mv (.t 5), none⟩,
  ⟨some 14, .mv (.t 1), none⟩,
  ⟨some 15, .iaddr 4 (.t 12) (.t 13), none⟩,
  ⟨some 16, .faddr 0 0 (.t 15), none⟩,
  ⟨none, .store 1 (.t 16) (.t 14), none⟩])
 (.seq (.region 0 [⟨some 17, .mv (.t 1), none⟩,
  ⟨some 18, .bin .add (.t 17) (.c (.int .i64 1)), none⟩,
  ⟨some 1, .mv (.t 18), none⟩])
 (.seq (.region 0 [⟨some 19, .mv (.t 0), none⟩,
  ⟨some 20, .mv (.t 5), none⟩,
  ⟨some 21, .mv (.t 1), none⟩,
  ⟨some 22, .iaddr 4 (.t 19) (.t 20), none⟩,
  ⟨some 23, .faddr 1 1 (.t 22), none⟩,
  ⟨none, .store 1 (.t 23) (.t 21), none⟩])
 (.seq (.region 0 [⟨some 24, .mv (.t 1), none⟩,
  ⟨some 25, .bin .add (.t 24) (.c (.int .i64 1)), none⟩,
  ⟨some 1, .mv (.t 25), none⟩])
 (.seq (.region 0 [⟨some 26, .mv (.t 0), none⟩,
  ⟨some 27, .mv (.t 5), none⟩,
  ⟨some 28, .iaddr 4 (.t 26) (.t 27), none⟩,
  ⟨some 29, .faddr 2 2 (.t 28), none⟩,
  ⟨some 30, .loadO (.sl 2) (.t 29), none⟩,
  ⟨some 31, .mv (.t 1), none⟩,
  ⟨some 32, .callM 2 95 (.t 30) [(.t 31)], none⟩,
  ⟨some 1, .mv (.t 32), none⟩])
 (.region 0 [⟨some 33, .mv (.t 0), none⟩,
  ⟨some 34, .mv (.t 5), none⟩,
  ⟨some 35, .iaddr 4 (.t 33) (.t 34), none⟩,
  ⟨some 36, .faddr 3 3 (.t 35), none⟩,
  ⟨some 37, .loadO (.sl 2) (.t 36), none⟩,
  ⟨some 38, .mv (.t 1), none⟩,
  ⟨some 39, .callM 2 232 (.t 37) [(.t 38)], none⟩,
  ⟨some 1, .mv (.t 39), none⟩])))))))
 (.region 0 [⟨some 10, .mv (.t 5), none⟩,
  ⟨some 11, .bin .add (.t 10) (.c (.int .i64 1)), none⟩,
  ⟨some 5, .mv (.t 11), none⟩])))
def laws_markEntryS_M_r0 : AC :=
 (.seq (.region 0 [⟨some 40, .mv (.t 1), none⟩,
  ⟨some 4, .mv (.t 40), none⟩])
 .ret)
def laws_markEntryS_M_ac : AC :=
 (.seq (.region 0 [⟨some 4, .mv (.c (.int .i64 0)), none⟩])
 (.seq (.seq (.region 0 [⟨some 5, .mv (.c (.int .i64 0)), none⟩])
 (.block 0 (.loop ⟨[0, 1, 5], [], [(5000, true)]⟩ laws_markEntryS_M_b0)))
 laws_markEntryS_M_r0))
noncomputable def laws_markEntryS_M_l0 (E : Env) (x1 : U) (x5 : U) (b5000 : List U) : Option U := loopK (roundOf E ⟨[0, 1, 5], [], [(5000, true)]⟩ laws_markEntryS_M_b0 (blockK 0 (seqK (fun s => exec E laws_markEntryS_M_r0 s (finishM 4 [(4, none)])) (finishM 4 [(4, none)])))) ([.ref 5000 [] 4 none, .val x1, .val x5], [.vir (.own (.sl 4 b5000))])
theorem laws_markEntryS_M_l0_eq (E : Env) (x1 : U) (x5 : U) (b5000 : List U) : laws_markEntryS_M_l0 E x1 x5 b5000 =
 (U.bin .lss x5 (.int .i64 (b5000.length : Int))).bind fun t1 => U.asBool t1
 (U.asInt x5 fun n2 => if 4 = 4 ∧ 0 ≤ n2 ∧ n2 < (b5000.length : Int) then if storable (.val x1) = true ∧ x1.size = 1 then (b5000[(n2 : Int).toNat]?).bind fun e3 => U.asAgg e3 fun us4 => if 0 = sizes (us4.take 0) then (us4[0]?).bind fun e5 => if e5.size = 1 then if (x1 : U).flat = true then (U.bin .add x1 (.int .i64 1)).bind fun t6 => U.asInt x5 fun n7 => if 4 = 4 ∧ 0 ≤ n7 ∧ n7 < (((b5000.set (n2 : Int).toNat (.agg (us4.set 0 x1)))).length : Int) then if storable (.val t6) = true ∧ t6.size = 1 then ((b5000.set (n2 : Int).toNat (.agg (us4.set 0 x1)))[(n7 : Int).toNat]?).bind fun e8 => U.asAgg e8 fun us9 => if 1 = sizes (us9.take 1) then (us9[1]?).bind fun e10 => if e10.size = 1 then if (t6 : U).flat = true then (U.bin .add t6 (.int .i64 1)).bind fun t11 => U.asInt x5 fun n12 => if 4 = 4 ∧ 0 ≤ n12 ∧ n12 < ((((b5000.set (n2 : Int).toNat (.agg (us4.set 0 x1))).set (n7 : Int).toNat (.agg (us9.set 1 t6)))).length : Int) then (((b5000.set (n2 : Int).toNat (.agg (us4.set 0 x1))).set (n7 : Int).toNat (.agg (us9.set 1 t6)))[(n12 : Int).toNat]?).bind fun e13 => U.asAgg e13 fun us14 => if 2 = sizes (us14.take 2) then (us14[2]?).bind fun e15 => U.asSlK 2 e15 fun _ => (((b5000.set (n2 : Int).toNat (.agg (us4.set 0 x1))).set (n7 : Int).toNat (.agg (us9.set 1 t6)))[(n12 : Int).toNat]?).bind fun e16 => U.asAgg e16 fun us17 => if 2 = sizes (us17.take 2) then (us17[2]?).bind fun e18 => U.asSlK 2 e18 fun _ => U.asSlK 2 e18 fun us19 => (E 200095 (.agg [.tup [.sl 2 us19]] :: [t11])).bind fun t20 => U.asMut 2 t20 fun y21 ys22 => U.asFlat y21 fun y21 => (((b5000.set (n2 : Int).toNat (.agg (us4.set 0 x1))).set (n7 : Int).toNat (.agg (us9.set 1 t6)))[(n12 : Int).toNat]?).bind fun e23 => U.asAgg e23 fun us24 => if 2 = sizes (us24.take 2) then (us24[2]?).bind fun e25 => if e25.size = 1 then U.asInt x5 fun n26 => if 4 = 4 ∧ 0 ≤ n26 ∧ n26 < (((((b5000.set (n2 : Int).toNat (.agg (us4.set 0 x1))).set (n7 : Int).toNat (.agg (us9.set 1 t6))).set (n12 : Int).toNat (.agg (us24.set 2 (.sl 2 ys22))))).length : Int) then ((((b5000.set (n2 : Int).toNat (.agg (us4.set 0 x1))).set (n7 : Int).toNat (.agg (us9.set 1 t6))).set (n12 : Int).toNat (.agg (us24.set 2 (.sl 2 ys22))))[(n26 : Int).toNat]?).bind fun e27 => U.asAgg e27 fun us28 => if 3 = sizes (us28.take 3) then (us28[3]?).bind fun e29 => U.asSlK 2 e29 fun _ => ((((b5000.set (n2 : Int).toNat (.agg (us4.set 0 x1))).set (n7 : Int).toNat (.agg (us9.set 1 t6))).set (n12 : Int).toNat (.agg (us24.set 2 (.sl 2 ys22))))[(n26 : Int).toNat]?).bind fun e30 => U.asAgg e30 fun us31 => if 3 = sizes (us31.take 3) then (us31[3]?).bind fun e32 => U.asSlK 2 e32 fun _ => U.asSlK 2 e32 fun us33 => (E 200232 (.agg [.tup [.sl 2 us33]] :: [y21])).bind fun t34 => U.asMut 2 t34 fun y35 ys36 => U.asFlat y35 fun y35 => ((((b5000.set (n2 : Int).toNat (.agg (us4.set 0 x1))).set (n7 : Int).toNat (.agg (us9.set 1 t6))).set (n12 : Int).toNat (.agg (us24.set 2 (.sl 2 ys22))))[(n26 : Int).toNat]?).bind fun e37 => U.asAgg e37 fun us38 => if 3 = sizes (us38.take 3) then (us38[3]?).bind fun e39 => if e39.size = 1 then (U.bin .add x5 (.int .i64 1)).bind fun t40 => laws_markEntryS_M_l0 E y35 t40 ((((b5000.set (n2 : Int).toNat (.agg (us4.set 0 x1))).set (n7 : Int).toNat (.agg (us9.set 1 t6))).set (n12 : Int).toNat (.agg (us24.set 2 (.sl 2 ys22)))).set (n26 : Int).toNat (.agg (us38.set 3 (.sl 2 ys36)))) else none else none else none else none else none else none else none else none else none else none else none else none else none else none else none else none else none else none else none else none)
 (if (x1 : U).flat = true then some (.tup [x1, .sl 4 b5000]) else none) :=
 (loop_eq E _ _ _ _).trans (by kernel_rfl)
structure G_laws_markEntryS_M (E : Env) : Prop where
  is : Is E 200287 2 laws_markEntryS_M_ac [(4, none)]
  c_laws_markReadMarkS_M : G_laws_markReadMarkS_M E
  c_laws_markWriteS_M : G_laws_markWriteS_M E
theorem laws_markEntryS_M_E {E : Env} (h : G_laws_markEntryS_M E) (xs0 : List U) (a1 : U) : E 200287 (.agg [.tup [.sl 4 xs0]] :: [a1]) =
 laws_markEntryS_M_l0 E a1 (.int .i64 0) xs0 := (h.is _ rfl).trans ((runQ_M rfl).trans (by kernel_rfl))
end Go.Proofs.Ytfdcdbkblkehcaa.Am
namespace Go.Proofs.Ytfdcdbkblkehcaa.Am
open Go
set_option linter.unusedVariables false
set_option maxRecDepth 100000
def laws_markIntS_M_b0 : AC :=
 (.seq (.seq (.region 0 [⟨some 6, .mv (.t 5), none⟩,
  ⟨some 7, .mv (.t 0), none⟩,
  ⟨some 8, .len false (.t 7), none⟩,
  ⟨some 9, .bin .lss (.t 6) (.t 8), none⟩])
 (.cond (.t 9) .skip (.exit 0)))
 (.seq (.block 1 (.seq (.region 0 [⟨some 12, .mv (.t 0), none⟩,
  ⟨some 13, .mv (.t 5), none⟩,
  ⟨some 14, .mv (.t 1), none⟩,
  ⟨some 15, .iaddr 1 (.t 12) (.t 13), none⟩,
  ⟨none, .store 1 (.t 15) (.t 14), none⟩])
 (.region 0 [⟨some 16, .mv (.t 1), none⟩,
  ⟨some 17, .bin .add (.t 16) (.c (.int .i64 1)), none⟩,
  ⟨some 1, .mv (.t 17), none⟩])))
 (.region 0 [⟨some 10, .mv (.t 5), none⟩,
  ⟨some 11, .bin .add (.t 10) (.c (.int .i64 1)), none⟩,
  ⟨some 5, .mv (.t 11), none⟩])))
def laws_markIntS_M_r0 : AC :=
 (.seq (.region 0 [⟨some 18, .mv (.t 1), none⟩,
  ⟨some 4, .mv (.t 18), none⟩])
 .ret)
def laws_markIntS_M_ac : AC :=
 (.seq (.region 0 [⟨some 4, .mv (.c (.int .i64 0)), none⟩])
 (.seq (.seq (.region 0 [⟨some 5, .mv (.c (.int .i64 0)), none⟩])
 (.block 0 (.loop ⟨[0, 1, 5], [], [(5000, true)]⟩ laws_markIntS_M_b0)))
 laws_markIntS_M_r0))
noncomputable def laws_markIntS_M_l0 (E : Env) (x1 : U) (x5 : U) (b5000 : List U) : Option U := loopK (roundOf E ⟨[0, 1, 5], [], [(5000, true)]⟩ laws_markIntS_M_b0 (blockK 0 (seqK (fun s => exec E laws_markIntS_M_r0 s (finishM 1 [(4, none)])) (finishM 1 [(4, none)])))) ([.ref 5000 [] 1 none, .val x1, .val x5], [.vir (.own (.sl 1 b5000))])
theorem laws_markIntS_M_l0_eq (E : Env) (x1 : U) (x5 : U) (b5000 : List U) : laws_markIntS_M_l0 E x1 x5 b5000 =
 (U.bin .lss x5 (.int .i64 (b5000.length : Int))).bind fun t1 => U.asBool t1
 (U.asInt x5 fun n2 => if 1 = 1 ∧ 0 ≤ n2 ∧ n2 < (b5000.length : Int) then if storable (.val x1) = true ∧ x1.size = 1 then (b5000[(n2 : Int).toNat]?).bind fun e3 => if e3.size = 1 then if (x1 : U).flat = true then (U.bin .add x1 (.int .i64 1)).bind fun t4 => (U.bin .add x5 (.int .i64 1)).bind fun t5 => laws_markIntS_M_l0 E t4 t5 (b5000.set (n2 : Int).toNat x1) else none else none else none else none)
 (if (x1 : U).flat = true then some (.tup [x1, .sl 1 b5000]) else none) :=
 (loop_eq E _ _ _ _).trans (by kernel_rfl)
structure G_laws_markIntS_M (E : Env) : Prop where
  is : Is E 200086 2 laws_markIntS_M_ac [(4, none)]
theorem laws_markIntS_M_E {E : Env} (h : G_laws_markIntS_M E) (xs0 : List U) (a1 : U) : E 200086 (.agg [.tup [.sl 1 xs0]] :: [a1]) =
 laws_markIntS_M_l0 E a1 (.int .i64 0) xs0 := (h.is _ rfl).trans ((runQ_M rfl).trans (by kernel_rfl))
end Go.Proofs.Ytfdcdbkblkehcaa.Am
namespace Go.Proofs.Ytfdcdbkblkehcaa.Am
open Go
set_option linter.unusedVariables false
set_option maxRecDepth 100000
def laws_FnExactReplaySerial_ac : AC :=
 (.seq (.region 0 [⟨some 4, .mv (.c (.bool false)), none⟩])
 (.seq (.seq (.region 0 [⟨some 17, .mv (.t 1), none⟩,
  ⟨some 18, .len false (.t 17), none⟩,
  ⟨some 19, .bin .gtr (.t 18) (.c (.int .i64 1048576)), none⟩])
 (.cond (.t 19) (.seq (.region 0 [⟨some 4, .mv (.c (.bool true)), none⟩])
 .ret) .skip))
 (.seq (.region 0 [⟨some 5, .mv (.c (.int .i64 1048576)), none⟩])
 (.seq (.region 0 [⟨some 20, .mv (.t 0), none⟩,
  ⟨some 21, .mv (.t 5), none⟩,
  ⟨some 22, .call false 49 [(.t 20), (.t 21)], none⟩,
  ⟨some 5, .mv (.t 22), none⟩])
 (.seq (.seq (.region 0 [⟨some 23, .mv (.t 5), none⟩,
  ⟨some 24, .bin .lss (.t 23) (.c (.int .i64 0)), none⟩])
 (.cond (.t 24) (.seq (.region 0 [⟨some 4, .mv (.c (.bool true)), none⟩])
 .ret) .skip))
 (.seq (.region 0 [⟨some 26, .mv (.t 0), none⟩,
  ⟨some 27, .call false 45 [(.t 26)], none⟩,
  ⟨some 28, .mv (.t 1), none⟩,
  ⟨some 29, .call false 58 [(.t 28)], none⟩,
  ⟨some 30, .call false 280 [(.t 27), (.t 29)], none⟩,
  ⟨some 25, .mv (.t 30), none⟩,
  ⟨some 31, .extract 0 (.t 25), none⟩,
  ⟨some 32, .extract 1 (.t 25), none⟩,
  ⟨some 6, .mv (.t 31), none⟩,
  ⟨some 7, .mv (.t 32), none⟩])
 (.seq (.region 0 [⟨some 33, .mv (.t 0), none⟩,
  ⟨some 34, .callF 34 false [(.sl 4)] 45 [(.t 33)], none⟩,
  ⟨some 8, .mv (.t 34), none⟩])
 (.seq (.region 0 [⟨some 35, .mv (.t 1), none⟩,
  ⟨some 36, .callF 36 false [(.sl 1)] 58 [(.t 35)], none⟩,
  ⟨some 9, .mv (.t 36), none⟩])
 (.seq (.region 0 [⟨some 38, .mv (.t 8), none⟩,
  ⟨some 39, .mv (.t 9), none⟩,
  ⟨some 40, .callF 40 true [(.sl 1), .bool] 283 [(.t 38), (.t 39)], none⟩,
  ⟨some 37, .mv (.t 40), none⟩,
  ⟨some 41, .extract 0 (.t 37), none⟩,
  ⟨some 42, .extract 1 (.t 37), none⟩,
  ⟨some 10, .mv (.t 41), none⟩,
  ⟨some 11, .mv (.t 42), none⟩])
 (.seq (.seq (.region 0 [⟨some 43, .mv (.t 10), none⟩,
  ⟨some 44, .mv (.t 6), none⟩,
  ⟨some 45, .call false 59 [(.t 43), (.t 44)], none⟩,
  ⟨some 46, .un .not (.t 45), none⟩,
  ⟨some 47, .mv (.t 46), none⟩,
  ⟨some 48, .mv (.t 11), some (47, false)⟩,
  ⟨some 49, .mv (.t 7), some (47, false)⟩,
  ⟨some 50, .eqv true 0 (.t 48) (.t 49), some (47, false)⟩,
  ⟨some 51, .pick (.t 47) (.c (.bool true)) (.t 50), none⟩])
 (.cond (.t 51) (.seq (.region 0 [⟨some 4, .mv (.c (.bool false)), none⟩])
 .ret) .skip))
 (.seq (.seq (.region 0 [⟨some 52, .mv (.t 8), none⟩,
  ⟨some 53, .mv (.t 0), none⟩,
  ⟨some 54, .call false 45 [(.t 53)], none⟩,
  ⟨some 55, .call false 46 [(.t 52), (.t 54)], none⟩,
  ⟨some 56, .un .not (.t 55), none⟩])
 (.cond (.t 56) (.seq (.region 0 [⟨some 4, .mv (.c (.bool false)), none⟩])
 .ret) .skip))
 (.seq (.seq (.region 0 [⟨some 57, .mv (.t 9), none⟩,
  ⟨some 58, .mv (.t 1), none⟩,
  ⟨some 59, .call false 58 [(.t 58)], none⟩,
  ⟨some 60, .call false 59 [(.t 57), (.t 59)], none⟩,
  ⟨some 61, .un .not (.t 60), none⟩])
 (.cond (.t 61) (.seq (.region 0 [⟨some 4, .mv (.c (.bool false)), none⟩])
 .ret) .skip))
 (.seq (.region 0 [⟨some 12, .mv (.c (.int .i64 1)), none⟩])
 (.seq (.region 0 [⟨some 62, .mv (.t 8), none⟩,
  ⟨some 63, .mv (.t 12), none⟩,
  ⟨some 64, .callM 4 287 (.t 62) [(.t 63)], none⟩,
  ⟨some 12, .mv (.t 64), none⟩])
 (.seq (.region 0 [⟨some 65, .mv (.t 9), none⟩,
  ⟨some 66, .mv (.t 12), none⟩,
  ⟨some 67, .callM 1 86 (.t 65) [(.t 66)], none⟩,
  ⟨some 12, .mv (.t 67), none⟩])
 (.seq (.seq (.region 0 [⟨some 68, .mv (.t 12), none⟩,
  ⟨some 69, .bin .lss (.t 68) (.c (.int .i64 0)), none⟩,
  ⟨some 70, .mv (.t 69), none⟩,
  ⟨some 71, .mv (.t 10), some (70, false)⟩,
  ⟨some 72, .mv (.t 6), some (70, false)⟩,
  ⟨some 73, .call false 59 [(.t 71), (.t 72)], some (70, false)⟩,
  ⟨some 74, .un .not (.t 73), some (70, false)⟩,
  ⟨some 75, .pick (.t 70) (.c (.bool true)) (.t 74), none⟩,
  ⟨some 76, .mv (.t 75), none⟩,
  ⟨some 77, .mv (.t 11), some (76, false)⟩,
  ⟨some 78, .mv (.t 7), some (76, false)⟩,
  ⟨some 79, .eqv true 0 (.t 77) (.t 78), some (76, false)⟩,
  ⟨some 80, .pick (.t 76) (.c (.bool true)) (.t 79), none⟩])
 (.cond (.t 80) (.seq (.region 0 [⟨some 4, .mv (.c (.bool false)), none⟩])
 .ret) .skip))
 (.seq (.region 0 [⟨some 13, .mv (.c (.int .i64 1)), none⟩])
 (.seq (.region 0 [⟨some 81, .mv (.t 10), none⟩,
  ⟨some 82, .mv (.t 13), none⟩,
  ⟨some 83, .callM 1 86 (.t 81) [(.t 82)], none⟩,
  ⟨some 13, .mv (.t 83), none⟩])
 (.seq (.region 0 [⟨some 14, .mv (.c (.int .i64 1)), none⟩])
 (.seq (.region 0 [⟨some 84, .mv (.t 10), none⟩,
  ⟨some 85, .mv (.t 14), none⟩,
  ⟨some 86, .call false 90 [(.t 84), (.t 85)], none⟩,
  ⟨some 14, .mv (.t 86), none⟩])
 (.seq (.seq (.region 0 [⟨some 87, .mv (.t 14), none⟩,
  ⟨some 88, .bin .lss (.t 87) (.c (.int .i64 0)), none⟩])
 (.cond (.t 88) (.seq (.region 0 [⟨some 4, .mv (.c (.bool false)), none⟩])
 .ret) .skip))
 (.seq (.seq (.region 0 [⟨some 89, .mv (.t 14), none⟩,
  ⟨some 90, .mv (.t 13), none⟩,
  ⟨some 91, .bin .neq (.t 89) (.t 90), none⟩])
 (.cond (.t 91) (.seq (.region 0 [⟨some 4, .mv (.c (.bool false)), none⟩])
 .ret) .skip))
 (.seq (.region 0 [⟨some 93, .mv (.t 0), none⟩,
  ⟨some 94, .call false 45 [(.t 93)], none⟩,
  ⟨some 95, .mv (.t 1), none⟩,
  ⟨some 96, .call false 58 [(.t 95)], none⟩,
  ⟨some 97, .call false 283 [(.t 94), (.t 96)], none⟩,
  ⟨some 92, .mv (.t 97), none⟩,
  ⟨some 98, .extract 0 (.t 92), none⟩,
  ⟨some 99, .extract 1 (.t 92), none⟩,
  ⟨some 15, .mv (.t 98), none⟩,
  ⟨some 16, .mv (.t 99), none⟩])
 (.seq (.seq (.region 0 [⟨some 100, .mv (.t 15), none⟩,
  ⟨some 101, .mv (.t 6), none⟩,
  ⟨some 102, .call false 59 [(.t 100), (.t 101)], none⟩,
  ⟨some 103, .un .not (.t 102), none⟩,
  ⟨some 104, .mv (.t 103), none⟩,
  ⟨some 105, .mv (.t 16), some (104, false)⟩,
  ⟨some 106, .mv (.t 7), some (104, false)⟩,
  ⟨some 107, .eqv true 0 (.t 105) (.t 106), some (104, false)⟩,
  ⟨some 108, .pick (.t 104) (.c (.bool true)) (.t 107), none⟩])
 (.cond (.t 108) (.seq (.region 0 [⟨some 4, .mv (.c (.bool false)), none⟩])
 .ret) .skip))
 (.seq (.region 0 [⟨some 14, .mv (.c (.int .i64 1)), none⟩])
 (.seq (.region 0 [⟨some 109, .mv (.t 10), none⟩,
  ⟨some 110, .mv (.t 14), none⟩,
  ⟨some 111, .call false 90 [(.t 109), (.t 110)], none⟩,
  ⟨some 14, .mv (.t 111), none⟩])
 (.seq (.seq (.region 0 [⟨some 112, .mv (.t 14), none⟩,
  ⟨some 113, .bin .lss (.t 112) (.c (.int .i64 0)), none⟩])
 (.cond (.t 113) (.seq (.region 0 [⟨some 4, .mv (.c (.bool false)), none⟩])
 .ret) .skip))
 (.seq (.seq (.region 0 [⟨some 114, .mv (.t 14), none⟩,
  ⟨some 115, .mv (.t 13), none⟩,
  ⟨some 116, .bin .neq (.t 114) (.t 115), none⟩])
 (.cond (.t 116) (.seq (.region 0 [⟨some 4, .mv (.c (.bool false)), none⟩])
 .ret) .skip))
 (.seq (.region 0 [⟨some 4, .mv (.c (.bool true)), none⟩])
 .ret)))))))))))))))))))))))))))))
structure G_laws_FnExactReplaySerial (E : Env) : Prop where
  is : Is E 305 2 laws_FnExactReplaySerial_ac [(4, none)]
  c_laws_szEntryS : G_laws_szEntryS E
  c_laws_toEntryS : G_laws_toEntryS E
  c_laws_eqIntS : G_laws_eqIntS E
  c_laws_eqEntryS : G_laws_eqEntryS E
  c_laws_heldIntS : G_laws_heldIntS E
  c_laws_toIntS : G_laws_toIntS E
  c_spec_ReplaySerial : G_spec_ReplaySerial E
  c_impl_ReplaySerial : G_impl_ReplaySerial E
  c_laws_toEntryS_F : G_laws_toEntryS_F E
  c_laws_toIntS_F : G_laws_toIntS_F E
  c_impl_ReplaySerial_F : G_impl_ReplaySerial_F E
  c_laws_markEntryS_M : G_laws_markEntryS_M E
  c_laws_markIntS_M : G_laws_markIntS_M E
theorem laws_FnExactReplaySerial_E {E : Env} (h : G_laws_FnExactReplaySerial E) (a0 a1 : U) : E 305 [a0, a1] =
 (U.lenOf false a1).bind fun n1 => (U.bin .gtr (.int .i64 (n1 : Int)) (.int .i64 1048576)).bind fun t2 => U.asBool t2
 (some (.bool true))
 ((E 49 [a0, (.int .i64 1048576)]).bind fun t3 => (U.bin .lss t3 (.int .i64 0)).bind fun t4 => U.asBool t4
 (some (.bool true))
 ((E 45 [a0]).bind fun t5 => (E 58 [a1]).bind fun t6 => (E 280 [t5, t6]).bind fun t7 => U.part 0 t7 fun p8 => U.part 1 t7 fun p9 => (E 100045 [a0]).bind fun t10 => U.noTup t10 fun x11 => U.asSlK 4 x11 fun us12 => (E 100058 [a1]).bind fun t13 => U.noTup t13 fun x14 => U.asSlK 1 x14 fun us15 => (E 100283 [(.sl 4 us12), (.sl 1 us15)]).bind fun t16 => U.asTup t16 fun us17 => (match us17 with
 | u18 :: us19 => (U.asSlK 1 u18 fun us20 => (match us19 with
 | u21 :: us22 => (U.asB u21 fun b23 => (match us22 with
 | [] => ((E 59 [(.sl 1 us20), p8]).bind fun t24 => U.asFlat t24 fun t25 => (U.un .not t25).bind fun t26 => U.asBool t26
 (some (.bool false))
 ((U.eqv 0 (.bool b23) p9).bind fun q27 => U.asBool (.bool (!q27))
 (some (.bool false))
 ((E 45 [a0]).bind fun t28 => (E 46 [(.sl 4 us12), t28]).bind fun t29 => U.asFlat t29 fun t30 => (U.un .not t30).bind fun t31 => U.asBool t31
 (some (.bool false))
 ((E 58 [a1]).bind fun t32 => (E 59 [(.sl 1 us15), t32]).bind fun t33 => U.asFlat t33 fun t34 => (U.un .not t34).bind fun t35 => U.asBool t35
 (some (.bool false))
 ((E 200287 (.agg [.tup [.sl 4 us12]] :: [(.int .i64 1)])).bind fun t36 => U.asMut 4 t36 fun y37 ys38 => U.asFlat y37 fun y37 => (E 200086 (.agg [.tup [.sl 1 us15]] :: [y37])).bind fun t39 => U.asMut 1 t39 fun y40 ys41 => U.asFlat y40 fun y40 => (U.bin .lss y40 (.int .i64 0)).bind fun t42 => U.asBool t42
 (some (.bool false))
 ((E 59 [(.sl 1 us20), p8]).bind fun t43 => U.asFlat t43 fun t44 => (U.un .not t44).bind fun t45 => U.asBool t45
 (some (.bool false))
 ((U.eqv 0 (.bool b23) p9).bind fun q46 => U.asBool (.bool (!q46))
 (some (.bool false))
 ((E 200086 (.agg [.tup [.sl 1 us20]] :: [(.int .i64 1)])).bind fun t47 => U.asMut 1 t47 fun y48 ys49 => U.asFlat y48 fun y48 => (E 90 [(.sl 1 ys49), (.int .i64 1)]).bind fun t50 => U.asFlat t50 fun t51 => (U.bin .lss t51 (.int .i64 0)).bind fun t52 => U.asBool t52
 (some (.bool false))
 ((U.bin .neq t51 y48).bind fun t53 => U.asBool t53
 (some (.bool false))
 ((E 45 [a0]).bind fun t54 => (E 58 [a1]).bind fun t55 => (E 283 [t54, t55]).bind fun t56 => U.part 0 t56 fun p57 => U.part 1 t56 fun p58 => (E 59 [p57, p8]).bind fun t59 => (U.un .not t59).bind fun t60 => U.asBool t60
 (some (.bool false))
 ((U.eqv 0 p58 p9).bind fun q61 => U.asBool (.bool (!q61))
 (some (.bool false))
 ((E 90 [(.sl 1 ys49), (.int .i64 1)]).bind fun t62 => U.asFlat t62 fun t63 => (U.bin .lss t63 (.int .i64 0)).bind fun t64 => U.asBool t64
 (some (.bool false))
 ((U.bin .neq t63 y48).bind fun t65 => U.asBool t65
 (some (.bool false))
 (some (.bool true)))))))))))))))
 | _ => none))
 | [] => none))
 | [] => none))) := (h.is _ rfl).trans ((runQ_V rfl).trans (by kernel_rfl))
end Go.Proofs.Ytfdcdbkblkehcaa.Am
