import Derived.KernelRfl
import Derived.Test.YtlmnkhlkccipfaaBackEdgesF0
import Derived.Test.YtlmnkhlkccipfaaAmW
import Derived.Test.YtlmnkhlkccipfaaAmSo
namespace Go.Proofs.Ytlmnkhlkccipfaa.Am
open Go
set_option linter.unusedVariables false
set_option maxRecDepth 100000
def f56_b0 : AC :=
 (.seq (.seq (rg [oo 8 (.mv (.t 4)),
  oo 9 (.mv (.t 0)),
  oo 10 (.len false (.t 9)),
  oo 11 (.bin .lss (.t 8) (.t 10))])
 (.cond (.t 11) .skip (.exit 0)))
 (.seq (.block 1 (rg [oo 14 (.mv (.t 3)),
  oo 15 (.mv (.t 4)),
  oo 16 (.mv (.t 0)),
  oo 17 (.mv (.t 4)),
  oo 18 (.iaddr 2 (.t 16) (.t 17)),
  oo 19 (.load true 2 (.t 18)),
  oo 20 (.call false 30 [(.t 19)]),
  oo 21 (.iaddr 2 (.t 14) (.t 15)),
  ⟨none, .store 2 (.t 21) (.t 20), none⟩]))
 (rg [oo 12 (.mv (.t 4)),
  oo 13 (.bin .add (.t 12) (ci 1)),
  oo 4 (.mv (.t 13))])))
def f56_r0 : AC :=
 (.seq (rg [oo 22 (.mv (.t 3)),
  oo 2 (.mv (.t 22))])
 .ret)
def f56_ac : AC :=
 (.seq (rg [oo 2 (.mv (.c (.nsl 2)))])
 (.seq (rg [oo 5 (.mv (.t 0)),
  oo 6 (.len false (.t 5)),
  oo 7 (.mkslice 7 2 16 (.agg [(.int .i64 0), (.int .i64 0)]) (.t 6) (.t 6)),
  oo 3 (.mv (.t 7))])
 (.seq (.seq (rg [oo 4 (.mv (ci 0))])
 (.block 0 (.loop ⟨[0, 4], [(3, 2, false)], []⟩ f56_b0)))
 f56_r0)))
noncomputable def f56_l0 (E : Env) (x0 : U) (x4 : U) (c3 : List U) : Option U := loopK (roundOf E ⟨[0, 4], [(3, 2, false)], []⟩ f56_b0 (blockK 0 (seqK (fun s => exec E f56_r0 s (finishF [(2, none)])) (finishF [(2, none)])))) ([.val x0, .val x4], [.vir (.asl 2 c3)])
theorem f56_l0_eq (E : Env) (x0 : U) (x4 : U) (c3 : List U) : f56_l0 E x0 x4 c3 =
 (U.lenOf false x0).bind fun n2 => (U.bin .lss x4 (.int .i64 (n2 : Int))).bind fun t3 => U.asBool t3
 (U.asInt x4 fun n4 => U.elemAt 2 x0 n4 fun e5 => U.asVar true 2 e5 fun e6 => (E 30 [e6]).bind fun t7 => U.asInt x4 fun n8 => if 2 = 2 ∧ 0 ≤ n8 ∧ n8 < ((c3).length : Int) then if storable (.val t7) = true ∧ t7.size = 2 then (c3[(n8 : Int).toNat]?).bind fun e9 => if e9.size = 2 then (U.bin .add x4 (.int .i64 1)).bind fun t10 => f56_l0 E x0 t10 (c3.set (n8 : Int).toNat t7) else none else none else none)
 (if U.flat.flats c3 = true then some (.sl 2 c3) else none) :=
 (loop_eq E _ _ _ _).trans (by kernel_rfl)
structure G_f56 (E : Env) : Prop where
  is : Is E 100027 1 f56_ac [(2, none)]
  c_f54 : G_f54 E
theorem f56_E {E : Env} (h : G_f56 E) (a0 : U) : E 100027 [a0] =
 (U.lenOf false a0).bind fun n1 => if 0 ≤ (n1 : Int) ∧ (n1 : Int) ≤ (n1 : Int) ∧ (n1 : Int) * 16 ≤ 140737488355328 ∧ ((.agg [(.int .i64 0), (.int .i64 0)]) : U).size = 2 then f56_l0 E a0 (.int .i64 0) (List.replicate ((n1 : Int) : Int).toNat (.agg [(.int .i64 0), (.int .i64 0)])) else none := (h.is _ rfl).trans ((runQ_F rfl).trans (by kernel_rfl))
def f50_ac : AC :=
 (.seq (rg [oo 1 (.box false 1 (.t 0)),
  oo 2 (.alloc 2 (.agg [(.int .i64 0), (.int .i64 0), (.nsl 2), (.nsl 2)]))])
 (.seq (rg [oo 3 (.alloc 3 (.agg [(.int .i64 0), (.int .i64 0), (.nsl 2), (.nsl 2)]))])
 (.seq (rg [oo 4 (.faddr 0 0 (.t 1)),
  oo 5 (.load false 1 (.t 4)),
  oo 6 (.faddr 0 0 (.t 3)),
  ⟨none, .store 1 (.t 6) (.t 5), none⟩])
 (.seq (rg [oo 7 (.faddr 1 1 (.t 1)),
  oo 8 (.load false 1 (.t 7)),
  oo 9 (.faddr 1 1 (.t 3)),
  ⟨none, .store 1 (.t 9) (.t 8), none⟩])
 (.seq (rg [oo 10 (.faddr 2 2 (.t 1)),
  oo 11 (.load false 1 (.t 10)),
  oo 12 (.callF 12 false [(.sl 2)] 28 [(.t 11)]),
  oo 13 (.faddr 2 2 (.t 3)),
  ⟨none, .storeM 3000 1 (.t 13) (.t 12), none⟩])
 (.seq (rg [oo 14 (.faddr 3 3 (.t 1)),
  oo 15 (.load false 1 (.t 14)),
  oo 16 (.callF 16 false [(.sl 2)] 27 [(.t 15)]),
  oo 17 (.faddr 3 3 (.t 3)),
  ⟨none, .storeM 3002 1 (.t 17) (.t 16), none⟩])
 (.seq (rg [oo 18 (.loadO (.agg [.int, .int, (.sl 2), (.sl 2)]) (.t 3)),
  ⟨none, .storeM 3001 4 (.t 2) (.t 18), none⟩])
 .ret)))))))
structure G_f50 (E : Env) : Prop where
  is : Is E 100051 1 f50_ac [(2, some (true, 4))]
  c_f53 : G_f53 E
  c_f56 : G_f56 E
theorem f50_E {E : Env} (h : G_f50 E) (a0 : U) : E 100051 [a0] =
 U.noTup a0 fun x1 => U.asAgg x1 fun us2 => if 0 = sizes (us2.take 0) then (us2[0]?).bind fun e3 => U.asVar false 1 e3 fun e4 => if storable (.val e4) = true ∧ e4.size = 1 then U.asAgg x1 fun us5 => if 1 = sizes (us5.take 1) then (us5[1]?).bind fun e6 => U.asVar false 1 e6 fun e7 => if storable (.val e7) = true ∧ e7.size = 1 then if 1 = sizes [e4] then U.asAgg x1 fun us8 => if 2 = sizes (us8.take 2) then (us8[2]?).bind fun e9 => U.asVar false 1 e9 fun e10 => (E 100028 [e10]).bind fun t11 => U.noTup t11 fun x12 => U.asSlK 2 x12 fun us13 => if 2 = sizes [e4, e7] then if 2 = sizes [e4, e7] then if 2 = dsizes [.val e4, .val e7] then U.asAgg x1 fun us14 => if 3 = sizes (us14.take 3) then (us14[3]?).bind fun e15 => U.asVar false 1 e15 fun e16 => (E 100027 [e16]).bind fun t17 => U.noTup t17 fun x18 => U.asSlK 2 x18 fun us19 => if 3 = dsizes [.val e4, .val e7, .own (.sl 2 us13)] then if 3 = dsizes [.val e4, .val e7, .own (.sl 2 us13)] then if 3 = dsizes [.val e4, .val e7, .own (.sl 2 us13)] then U.asInt e4 fun n20 => U.asInt e7 fun n21 => if 2 = dsizes [.val e4, .val e7] then if 2 = dsizes [.val e4, .val e7] then if 3 = dsizes [.val e4, .val e7, .junk 1] then if 3 = dsizes [.val e4, .val e7, .junk 1] then some (.agg [(.int .i64 n20), (.int .i64 n21), (.sl 2 us13), (.sl 2 us19)]) else none else none else none else none else none else none else none else none else none else none else none else none else none else none else none else none else none := (h.is _ rfl).trans ((runQ_F rfl).trans (by kernel_rfl))
def f49_b0 : AC :=
 (.seq (.seq (rg [oo 8 (.mv (.t 4)),
  oo 9 (.mv (.t 0)),
  oo 10 (.len false (.t 9)),
  oo 11 (.bin .lss (.t 8) (.t 10))])
 (.cond (.t 11) .skip (.exit 0)))
 (.seq (.block 1 (rg [oo 14 (.mv (.t 3)),
  oo 15 (.mv (.t 4)),
  oo 16 (.mv (.t 0)),
  oo 17 (.mv (.t 4)),
  oo 18 (.iaddr 4 (.t 16) (.t 17)),
  oo 19 (.load true 4 (.t 18)),
  oo 20 (.callF 20 false [(.agg [.int, .int, (.sl 2), (.sl 2)])] 51 [(.t 19)]),
  oo 21 (.iaddr 4 (.t 14) (.t 15)),
  ⟨none, .storeE 4 (.t 21) (.t 20), none⟩]))
 (rg [oo 12 (.mv (.t 4)),
  oo 13 (.bin .add (.t 12) (ci 1)),
  oo 4 (.mv (.t 13))])))
def f49_r0 : AC :=
 (.seq (rg [oo 22 (.mv (.t 3)),
  oo 2 (.mv (.t 22))])
 .ret)
def f49_ac : AC :=
 (.seq (rg [oo 2 (.mv (.c (.nsl 4)))])
 (.seq (rg [oo 5 (.mv (.t 0)),
  oo 6 (.len false (.t 5)),
  oo 7 (.mkslice 7 4 64 (.agg [(.int .i64 0), (.int .i64 0), (.nsl 2), (.nsl 2)]) (.t 6) (.t 6)),
  oo 3 (.mv (.t 7))])
 (.seq (.seq (rg [oo 4 (.mv (ci 0))])
 (.block 0 (.loop ⟨[0, 4], [(3, 4, true)], []⟩ f49_b0)))
 f49_r0)))
noncomputable def f49_l0 (E : Env) (x0 : U) (x4 : U) (c3 : List U) : Option U := loopK (roundOf E ⟨[0, 4], [(3, 4, true)], []⟩ f49_b0 (blockK 0 (seqK (fun s => exec E f49_r0 s (finishF [(2, none)])) (finishF [(2, none)])))) ([.val x0, .val x4], [.vir (.own (.sl 4 c3))])
theorem f49_l0_eq (E : Env) (x0 : U) (x4 : U) (c3 : List U) : f49_l0 E x0 x4 c3 =
 (U.lenOf false x0).bind fun n2 => (U.bin .lss x4 (.int .i64 (n2 : Int))).bind fun t3 => U.asBool t3
 (U.asInt x4 fun n4 => U.elemAt 4 x0 n4 fun e5 => U.asVar true 4 e5 fun e6 => (E 100051 [e6]).bind fun t7 => U.noTup t7 fun x8 => U.asAgg x8 fun us9 => (match us9 with
 | u10 :: us11 => (U.asInt u10 fun n12 => (match us11 with
 | u13 :: us14 => (U.asInt u13 fun n15 => (match us14 with
 | u16 :: us17 => (U.asSlK 2 u16 fun us18 => (match us17 with
 | u19 :: us20 => (U.asSlK 2 u19 fun us21 => (match us20 with
 | [] => (U.asInt x4 fun n22 => if 4 = 4 ∧ 0 ≤ n22 ∧ n22 < (c3.length : Int) then (c3[(n22 : Int).toNat]?).bind fun e23 => if e23.size = 4 then (U.bin .add x4 (.int .i64 1)).bind fun t24 => f49_l0 E x0 t24 (c3.set (n22 : Int).toNat (.agg [(.int .i64 n12), (.int .i64 n15), (.sl 2 us18), (.sl 2 us21)])) else none else none)
 | _ => none))
 | [] => none))
 | [] => none))
 | [] => none))
 | [] => none))
 (some (.sl 4 c3)) :=
 (loop_eq E _ _ _ _).trans (by kernel_rfl)
structure G_f49 (E : Env) : Prop where
  is : Is E 100045 1 f49_ac [(2, none)]
  c_f50 : G_f50 E
theorem f49_E {E : Env} (h : G_f49 E) (a0 : U) : E 100045 [a0] =
 (U.lenOf false a0).bind fun n1 => if 0 ≤ (n1 : Int) ∧ (n1 : Int) ≤ (n1 : Int) ∧ (n1 : Int) * 64 ≤ 140737488355328 ∧ ((.agg [(.int .i64 0), (.int .i64 0), (.nsl 2), (.nsl 2)]) : U).size = 4 then if U.flat.flats (List.replicate ((n1 : Int) : Int).toNat (.agg [(.int .i64 0), (.int .i64 0), (.nsl 2), (.nsl 2)])) = true then f49_l0 E a0 (.int .i64 0) (List.replicate ((n1 : Int) : Int).toNat (.agg [(.int .i64 0), (.int .i64 0), (.nsl 2), (.nsl 2)])) else none else none := (h.is _ rfl).trans ((runQ_F rfl).trans (by kernel_rfl))
def f5_ac : AC :=
 (.seq (rg [oo 1 (.box true 1 (.t 0)),
  oo 2 (.mv (.c (.nsl 4)))])
 (.seq (rg [oo 3 (.load false 1 (.t 1)),
  oo 4 (.callF 4 false [(.sl 4)] 408 [(.t 3)]),
  oo 5 (.mkfn 423 [(.t 1)]),
  oo 6 (.callC 6 4 424 (.t 4) [(.t 5)]),
  oo 2 (.mv (.t 6))])
 .ret))
structure G_f5 (E : Env) : Prop where
  is : Is E 100421 1 f5_ac [(2, none)]
  c_f4 : G_f4 E
  c_f7 : G_f7 E
  c_f59 : G_f59 E
theorem f5_E {E : Env} (h : G_f5 E) (a0 : U) : E 100421 [a0] =
 U.noTup a0 fun x1 => U.asVar false 1 x1 fun e2 => (E 100408 [e2]).bind fun t3 => U.noTup t3 fun x4 => U.asSlK 4 x4 fun us5 => (E 300424 (.agg [.tup [.sl 4 us5]] :: [(.fn 423 [(.vp x1)])])).bind fun t6 => U.asSlK 4 t6 fun us7 => some (.sl 4 us7) := (h.is _ rfl).trans ((runQ_F rfl).trans (by kernel_rfl))
def f41_b0 : AC :=
 (.seq (.seq (rg [oo 6 (.mv (.t 5)),
  oo 7 (.mv (.t 0)),
  oo 8 (.len false (.t 7)),
  oo 9 (.bin .lss (.t 6) (.t 8))])
 (.cond (.t 9) .skip (.exit 0)))
 (.seq (.block 1 (.seq (rg [oo 12 (.mv (.t 0)),
  oo 13 (.mv (.t 5)),
  oo 14 (.mv (.t 1)),
  oo 15 (.iaddr 2 (.t 12) (.t 13)),
  oo 16 (.faddr 0 0 (.t 15)),
  ⟨none, .store 1 (.t 16) (.t 14), none⟩])
 (.seq (rg [oo 17 (.mv (.t 1)),
  oo 18 (.bin .add (.t 17) (ci 1)),
  oo 1 (.mv (.t 18))])
 (.seq (rg [oo 19 (.mv (.t 0)),
  oo 20 (.mv (.t 5)),
  oo 21 (.mv (.t 1)),
  oo 22 (.iaddr 2 (.t 19) (.t 20)),
  oo 23 (.faddr 1 1 (.t 22)),
  ⟨none, .store 1 (.t 23) (.t 21), none⟩])
 (rg [oo 24 (.mv (.t 1)),
  oo 25 (.bin .add (.t 24) (ci 1)),
  oo 1 (.mv (.t 25))])))))
 (rg [oo 10 (.mv (.t 5)),
  oo 11 (.bin .add (.t 10) (ci 1)),
  oo 5 (.mv (.t 11))])))
def f41_r0 : AC :=
 (.seq (rg [oo 26 (.mv (.t 1)),
  oo 4 (.mv (.t 26))])
 .ret)
def f41_ac : AC :=
 (.seq (rg [oo 4 (.mv (ci 0))])
 (.seq (.seq (rg [oo 5 (.mv (ci 0))])
 (.block 0 (.loop ⟨[0, 1, 5], [], [(5000, true)]⟩ f41_b0)))
 f41_r0))
noncomputable def f41_l0 (E : Env) (x1 : U) (x5 : U) (b5000 : List U) : Option U := loopK (roundOf E ⟨[0, 1, 5], [], [(5000, true)]⟩ f41_b0 (blockK 0 (seqK (fun s => exec E f41_r0 s (finishM 2 [(4, none)])) (finishM 2 [(4, none)])))) ([.ref 5000 [] 2 none, .val x1, .val x5], [.vir (.own (.sl 2 b5000))])
theorem f41_l0_eq (E : Env) (x1 : U) (x5 : U) (b5000 : List U) : f41_l0 E x1 x5 b5000 =
 (U.bin .lss x5 (.int .i64 (b5000.length : Int))).bind fun t1 => U.asBool t1
 (U.asInt x5 fun n2 => if 2 = 2 ∧ 0 ≤ n2 ∧ n2 < (b5000.length : Int) then if storable (.val x1) = true ∧ x1.size = 1 then (b5000[(n2 : Int).toNat]?).bind fun e3 => U.asAgg e3 fun us4 => if 0 = sizes (us4.take 0) then (us4[0]?).bind fun e5 => if e5.size = 1 then if (x1 : U).flat = true then (U.bin .add x1 (.int .i64 1)).bind fun t6 => U.asInt x5 fun n7 => if 2 = 2 ∧ 0 ≤ n7 ∧ n7 < (((b5000.set (n2 : Int).toNat (.agg (us4.set 0 x1)))).length : Int) then if storable (.val t6) = true ∧ t6.size = 1 then ((b5000.set (n2 : Int).toNat (.agg (us4.set 0 x1)))[(n7 : Int).toNat]?).bind fun e8 => U.asAgg e8 fun us9 => if 1 = sizes (us9.take 1) then (us9[1]?).bind fun e10 => if e10.size = 1 then if (t6 : U).flat = true then (U.bin .add t6 (.int .i64 1)).bind fun t11 => (U.bin .add x5 (.int .i64 1)).bind fun t12 => f41_l0 E t11 t12 ((b5000.set (n2 : Int).toNat (.agg (us4.set 0 x1))).set (n7 : Int).toNat (.agg (us9.set 1 t6))) else none else none else none else none else none else none else none else none else none else none)
 (if (x1 : U).flat = true then some (.tup [x1, .sl 2 b5000]) else none) :=
 (loop_eq E _ _ _ _).trans (by kernel_rfl)
structure G_f41 (E : Env) : Prop where
  is : Is E 200095 2 f41_ac [(4, none)]
theorem f41_E {E : Env} (h : G_f41 E) (xs0 : List U) (a1 : U) : E 200095 (.agg [.tup [.sl 2 xs0]] :: [a1]) =
 f41_l0 E a1 (.int .i64 0) xs0 := (h.is _ rfl).trans ((runQ_M rfl).trans (by kernel_rfl))
def f42_b0 : AC :=
 (.seq (.seq (rg [oo 6 (.mv (.t 5)),
  oo 7 (.mv (.t 0)),
  oo 8 (.len false (.t 7)),
  oo 9 (.bin .lss (.t 6) (.t 8))])
 (.cond (.t 9) .skip (.exit 0)))
 (.seq (.block 1 (.seq (rg [oo 12 (.mv (.t 0)),
  oo 13 (.mv (.t 5)),
  oo 14 (.mv (.t 1)),
  oo 15 (.iaddr 2 (.t 12) (.t 13)),
  oo 16 (.faddr 0 0 (.t 15)),
  ⟨none, .store 1 (.t 16) (.t 14), none⟩])
 (.seq (rg [oo 17 (.mv (.t 1)),
  oo 18 (.bin .add (.t 17) (ci 1)),
  oo 1 (.mv (.t 18))])
 (.seq (rg [oo 19 (.mv (.t 0)),
  oo 20 (.mv (.t 5)),
  oo 21 (.mv (.t 1)),
  oo 22 (.iaddr 2 (.t 19) (.t 20)),
  oo 23 (.faddr 1 1 (.t 22)),
  ⟨none, .store 1 (.t 23) (.t 21), none⟩])
 (rg [oo 24 (.mv (.t 1)),
  oo 25 (.bin .add (.t 24) (ci 1)),
  oo 1 (.mv (.t 25))])))))
 (rg [oo 10 (.mv (.t 5)),
  oo 11 (.bin .add (.t 10) (ci 1)),
  oo 5 (.mv (.t 11))])))
def f42_r0 : AC :=
 (.seq (rg [oo 26 (.mv (.t 1)),
  oo 4 (.mv (.t 26))])
 .ret)
def f42_ac : AC :=
 (.seq (rg [oo 4 (.mv (ci 0))])
 (.seq (.seq (rg [oo 5 (.mv (ci 0))])
 (.block 0 (.loop ⟨[0, 1, 5], [], [(5000, true)]⟩ f42_b0)))
 f42_r0))
noncomputable def f42_l0 (E : Env) (x1 : U) (x5 : U) (b5000 : List U) : Option U := loopK (roundOf E ⟨[0, 1, 5], [], [(5000, true)]⟩ f42_b0 (blockK 0 (seqK (fun s => exec E f42_r0 s (finishM 2 [(4, none)])) (finishM 2 [(4, none)])))) ([.ref 5000 [] 2 none, .val x1, .val x5], [.vir (.own (.sl 2 b5000))])
theorem f42_l0_eq (E : Env) (x1 : U) (x5 : U) (b5000 : List U) : f42_l0 E x1 x5 b5000 =
 (U.bin .lss x5 (.int .i64 (b5000.length : Int))).bind fun t1 => U.asBool t1
 (U.asInt x5 fun n2 => if 2 = 2 ∧ 0 ≤ n2 ∧ n2 < (b5000.length : Int) then if storable (.val x1) = true ∧ x1.size = 1 then (b5000[(n2 : Int).toNat]?).bind fun e3 => U.asAgg e3 fun us4 => if 0 = sizes (us4.take 0) then (us4[0]?).bind fun e5 => if e5.size = 1 then if (x1 : U).flat = true then (U.bin .add x1 (.int .i64 1)).bind fun t6 => U.asInt x5 fun n7 => if 2 = 2 ∧ 0 ≤ n7 ∧ n7 < (((b5000.set (n2 : Int).toNat (.agg (us4.set 0 x1)))).length : Int) then if storable (.val t6) = true ∧ t6.size = 1 then ((b5000.set (n2 : Int).toNat (.agg (us4.set 0 x1)))[(n7 : Int).toNat]?).bind fun e8 => U.asAgg e8 fun us9 => if 1 = sizes (us9.take 1) then (us9[1]?).bind fun e10 => if e10.size = 1 then if (t6 : U).flat = true then (U.bin .add t6 (.int .i64 1)).bind fun t11 => (U.bin .add x5 (.int .i64 1)).bind fun t12 => f42_l0 E t11 t12 ((b5000.set (n2 : Int).toNat (.agg (us4.set 0 x1))).set (n7 : Int).toNat (.agg (us9.set 1 t6))) else none else none else none else none else none else none else none else none else none else none)
 (if (x1 : U).flat = true then some (.tup [x1, .sl 2 b5000]) else none) :=
 (loop_eq E _ _ _ _).trans (by kernel_rfl)
structure G_f42 (E : Env) : Prop where
  is : Is E 200232 2 f42_ac [(4, none)]
theorem f42_E {E : Env} (h : G_f42 E) (xs0 : List U) (a1 : U) : E 200232 (.agg [.tup [.sl 2 xs0]] :: [a1]) =
 f42_l0 E a1 (.int .i64 0) xs0 := (h.is _ rfl).trans ((runQ_M rfl).trans (by kernel_rfl))
def f40_b0 : AC :=
 (.seq (.seq (rg [oo 6 (.mv (.t 5)),
  oo 7 (.mv (.t 0)),
  oo 8 (.len false (.t 7)),
  oo 9 (.bin .lss (.t 6) (.t 8))])
 (.cond (.t 9) .skip (.exit 0)))
 (.seq (.block 1 (.seq (rg [oo 12 (.mv (.t 0)),
  oo 13 (.mv (.t 5)),
  oo 14 (.mv (.t 1)),
  oo 15 (.iaddr 4 (.t 12) (.t 13)),
  oo 16 (.faddr 0 0 (.t 15)),
  ⟨none, .store 1 (.t 16) (.t 14), none⟩])
 (.seq (rg [oo 17 (.mv (.t 1)),
  oo 18 (.bin .add (.t 17) (ci 1)),
  oo 1 (.mv (.t 18))])
 (.seq (rg [oo 19 (.mv (.t 0)),
  oo 20 (.mv (.t 5)),
  oo 21 (.mv (.t 1)),
  oo 22 (.iaddr 4 (.t 19) (.t 20)),
  oo 23 (.faddr 1 1 (.t 22)),
  ⟨none, .store 1 (.t 23) (.t 21), none⟩])
 (.seq (rg [oo 24 (.mv (.t 1)),
  oo 25 (.bin .add (.t 24) (ci 1)),
  oo 1 (.mv (.t 25))])
 (.seq (rg [oo 26 (.mv (.t 0)),
  oo 27 (.mv (.t 5)),
  oo 28 (.iaddr 4 (.t 26) (.t 27)),
  oo 29 (.faddr 2 2 (.t 28)),
  oo 30 (.loadO (.sl 2) (.t 29)),
  oo 31 (.mv (.t 1)),
  oo 32 (.callM 2 95 (.t 30) [(.t 31)]),
  oo 1 (.mv (.t 32))])
 (rg [oo 33 (.mv (.t 0)),
  oo 34 (.mv (.t 5)),
  oo 35 (.iaddr 4 (.t 33) (.t 34)),
  oo 36 (.faddr 3 3 (.t 35)),
  oo 37 (.loadO (.sl 2) (.t 36)),
  oo 38 (.mv (.t 1)),
  oo 39 (.callM 2 232 (.t 37) [(.t 38)]),
  oo 1 (.mv (.t 39))])))))))
 (rg [oo 10 (.mv (.t 5)),
  oo 11 (.bin .add (.t 10) (ci 1)),
  oo 5 (.mv (.t 11))])))
def f40_r0 : AC :=
 (.seq (rg [oo 40 (.mv (.t 1)),
  oo 4 (.mv (.t 40))])
 .ret)
def f40_ac : AC :=
 (.seq (rg [oo 4 (.mv (ci 0))])
 (.seq (.seq (rg [oo 5 (.mv (ci 0))])
 (.block 0 (.loop ⟨[0, 1, 5], [], [(5000, true)]⟩ f40_b0)))
 f40_r0))
noncomputable def f40_l0 (E : Env) (x1 : U) (x5 : U) (b5000 : List U) : Option U := loopK (roundOf E ⟨[0, 1, 5], [], [(5000, true)]⟩ f40_b0 (blockK 0 (seqK (fun s => exec E f40_r0 s (finishM 4 [(4, none)])) (finishM 4 [(4, none)])))) ([.ref 5000 [] 4 none, .val x1, .val x5], [.vir (.own (.sl 4 b5000))])
theorem f40_l0_eq (E : Env) (x1 : U) (x5 : U) (b5000 : List U) : f40_l0 E x1 x5 b5000 =
 (U.bin .lss x5 (.int .i64 (b5000.length : Int))).bind fun t1 => U.asBool t1
 (U.asInt x5 fun n2 => if 4 = 4 ∧ 0 ≤ n2 ∧ n2 < (b5000.length : Int) then if storable (.val x1) = true ∧ x1.size = 1 then (b5000[(n2 : Int).toNat]?).bind fun e3 => U.asAgg e3 fun us4 => if 0 = sizes (us4.take 0) then (us4[0]?).bind fun e5 => if e5.size = 1 then if (x1 : U).flat = true then (U.bin .add x1 (.int .i64 1)).bind fun t6 => U.asInt x5 fun n7 => if 4 = 4 ∧ 0 ≤ n7 ∧ n7 < (((b5000.set (n2 : Int).toNat (.agg (us4.set 0 x1)))).length : Int) then if storable (.val t6) = true ∧ t6.size = 1 then ((b5000.set (n2 : Int).toNat (.agg (us4.set 0 x1)))[(n7 : Int).toNat]?).bind fun e8 => U.asAgg e8 fun us9 => if 1 = sizes (us9.take 1) then (us9[1]?).bind fun e10 => if e10.size = 1 then if (t6 : U).flat = true then (U.bin .add t6 (.int .i64 1)).bind fun t11 => U.asInt x5 fun n12 => if 4 = 4 ∧ 0 ≤ n12 ∧ n12 < ((((b5000.set (n2 : Int).toNat (.agg (us4.set 0 x1))).set (n7 : Int).toNat (.agg (us9.set 1 t6)))).length : Int) then (((b5000.set (n2 : Int).toNat (.agg (us4.set 0 x1))).set (n7 : Int).toNat (.agg (us9.set 1 t6)))[(n12 : Int).toNat]?).bind fun e13 => U.asAgg e13 fun us14 => if 2 = sizes (us14.take 2) then (us14[2]?).bind fun e15 => U.asSlK 2 e15 fun _ => (((b5000.set (n2 : Int).toNat (.agg (us4.set 0 x1))).set (n7 : Int).toNat (.agg (us9.set 1 t6)))[(n12 : Int).toNat]?).bind fun e16 => U.asAgg e16 fun us17 => if 2 = sizes (us17.take 2) then (us17[2]?).bind fun e18 => U.asSlK 2 e18 fun _ => U.asSlK 2 e18 fun us19 => (E 200095 (.agg [.tup [.sl 2 us19]] :: [t11])).bind fun t20 => U.asMut 2 t20 fun y21 ys22 => U.asFlat y21 fun y21 => (((b5000.set (n2 : Int).toNat (.agg (us4.set 0 x1))).set (n7 : Int).toNat (.agg (us9.set 1 t6)))[(n12 : Int).toNat]?).bind fun e23 => U.asAgg e23 fun us24 => if 2 = sizes (us24.take 2) then (us24[2]?).bind fun e25 => if e25.size = 1 then U.asInt x5 fun n26 => if 4 = 4 ∧ 0 ≤ n26 ∧ n26 < (((((b5000.set (n2 : Int).toNat (.agg (us4.set 0 x1))).set (n7 : Int).toNat (.agg (us9.set 1 t6))).set (n12 : Int).toNat (.agg (us24.set 2 (.sl 2 ys22))))).length : Int) then ((((b5000.set (n2 : Int).toNat (.agg (us4.set 0 x1))).set (n7 : Int).toNat (.agg (us9.set 1 t6))).set (n12 : Int).toNat (.agg (us24.set 2 (.sl 2 ys22))))[(n26 : Int).toNat]?).bind fun e27 => U.asAgg e27 fun us28 => if 3 = sizes (us28.take 3) then (us28[3]?).bind fun e29 => U.asSlK 2 e29 fun _ => ((((b5000.set (n2 : Int).toNat (.agg (us4.set 0 x1))).set (n7 : Int).toNat (.agg (us9.set 1 t6))).set (n12 : Int).toNat (.agg (us24.set 2 (.sl 2 ys22))))[(n26 : Int).toNat]?).bind fun e30 => U.asAgg e30 fun us31 => if 3 = sizes (us31.take 3) then (us31[3]?).bind fun e32 => U.asSlK 2 e32 fun _ => U.asSlK 2 e32 fun us33 => (E 200232 (.agg [.tup [.sl 2 us33]] :: [y21])).bind fun t34 => U.asMut 2 t34 fun y35 ys36 => U.asFlat y35 fun y35 => ((((b5000.set (n2 : Int).toNat (.agg (us4.set 0 x1))).set (n7 : Int).toNat (.agg (us9.set 1 t6))).set (n12 : Int).toNat (.agg (us24.set 2 (.sl 2 ys22))))[(n26 : Int).toNat]?).bind fun e37 => U.asAgg e37 fun us38 => if 3 = sizes (us38.take 3) then (us38[3]?).bind fun e39 => if e39.size = 1 then (U.bin .add x5 (.int .i64 1)).bind fun t40 => f40_l0 E y35 t40 ((((b5000.set (n2 : Int).toNat (.agg (us4.set 0 x1))).set (n7 : Int).toNat (.agg (us9.set 1 t6))).set (n12 : Int).toNat (.agg (us24.set 2 (.sl 2 ys22)))).set (n26 : Int).toNat (.agg (us38.set 3 (.sl 2 ys36)))) else none else none else none else none else none else none else none else none else none else none else none else none else none else none else none else none else none else none else none else none)
 (if (x1 : U).flat = true then some (.tup [x1, .sl 4 b5000]) else none) :=
 (loop_eq E _ _ _ _).trans (by kernel_rfl)
structure G_f40 (E : Env) : Prop where
  is : Is E 200287 2 f40_ac [(4, none)]
  c_f41 : G_f41 E
  c_f42 : G_f42 E
theorem f40_E {E : Env} (h : G_f40 E) (xs0 : List U) (a1 : U) : E 200287 (.agg [.tup [.sl 4 xs0]] :: [a1]) =
 f40_l0 E a1 (.int .i64 0) xs0 := (h.is _ rfl).trans ((runQ_M rfl).trans (by kernel_rfl))
def f39_b0 : AC :=
 (.seq (.seq (rg [oo 6 (.mv (.t 5)),
  oo 7 (.mv (.t 0)),
  oo 8 (.len false (.t 7)),
  oo 9 (.bin .lss (.t 6) (.t 8))])
 (.cond (.t 9) .skip (.exit 0)))
 (.seq (.block 1 (.seq (rg [oo 12 (.mv (.t 0)),
  oo 13 (.mv (.t 5)),
  oo 14 (.mv (.t 1)),
  oo 15 (.iaddr 4 (.t 12) (.t 13)),
  oo 16 (.faddr 0 0 (.t 15)),
  ⟨none, .store 1 (.t 16) (.t 14), none⟩])
 (.seq (rg [oo 17 (.mv (.t 1)),
  oo 18 (.bin .add (.t 17) (ci 1)),
  oo 1 (.mv (.t 18))])
 (.seq (rg [oo 19 (.mv (.t 0)),
  oo 20 (.mv (.t 5)),
  oo 21 (.mv (.t 1)),
  oo 22 (.iaddr 4 (.t 19) (.t 20)),
  oo 23 (.faddr 1 1 (.t 22)),
  ⟨none, .store 1 (.t 23) (.t 21), none⟩])
 (.seq (rg [oo 24 (.mv (.t 1)),
  oo 25 (.bin .add (.t 24) (ci 1)),
  oo 1 (.mv (.t 25))])
 (.seq (rg [oo 26 (.mv (.t 0)),
  oo 27 (.mv (.t 5)),
  oo 28 (.mv (.t 1)),
  oo 29 (.iaddr 4 (.t 26) (.t 27)),
  oo 30 (.faddr 2 2 (.t 29)),
  ⟨none, .store 1 (.t 30) (.t 28), none⟩])
 (.seq (rg [oo 31 (.mv (.t 1)),
  oo 32 (.bin .add (.t 31) (ci 1)),
  oo 1 (.mv (.t 32))])
 (.seq (rg [oo 33 (.mv (.t 0)),
  oo 34 (.mv (.t 5)),
  oo 35 (.mv (.t 1)),
  oo 36 (.iaddr 4 (.t 33) (.t 34)),
  oo 37 (.faddr 3 3 (.t 36)),
  ⟨none, .store 1 (.t 37) (.t 35), none⟩])
 (rg [oo 38 (.mv (.t 1)),
  oo 39 (.bin .add (.t 38) (ci 1)),
  oo 1 (.mv (.t 39))])))))))))
 (rg [oo 10 (.mv (.t 5)),
  oo 11 (.bin .add (.t 10) (ci 1)),
  oo 5 (.mv (.t 11))])))
def f39_r0 : AC :=
 (.seq (rg [oo 40 (.mv (.t 1)),
  oo 4 (.mv (.t 40))])
 .ret)
def f39_ac : AC :=
 (.seq (rg [oo 4 (.mv (ci 0))])
 (.seq (.seq (rg [oo 5 (.mv (ci 0))])
 (.block 0 (.loop ⟨[0, 1, 5], [], [(5000, true)]⟩ f39_b0)))
 f39_r0))
noncomputable def f39_l0 (E : Env) (x1 : U) (x5 : U) (b5000 : List U) : Option U := loopK (roundOf E ⟨[0, 1, 5], [], [(5000, true)]⟩ f39_b0 (blockK 0 (seqK (fun s => exec E f39_r0 s (finishM 4 [(4, none)])) (finishM 4 [(4, none)])))) ([.ref 5000 [] 4 none, .val x1, .val x5], [.vir (.own (.sl 4 b5000))])
theorem f39_l0_eq (E : Env) (x1 : U) (x5 : U) (b5000 : List U) : f39_l0 E x1 x5 b5000 =
 (U.bin .lss x5 (.int .i64 (b5000.length : Int))).bind fun t1 => U.asBool t1
 (U.asInt x5 fun n2 => if 4 = 4 ∧ 0 ≤ n2 ∧ n2 < (b5000.length : Int) then if storable (.val x1) = true ∧ x1.size = 1 then (b5000[(n2 : Int).toNat]?).bind fun e3 => U.asAgg e3 fun us4 => if 0 = sizes (us4.take 0) then (us4[0]?).bind fun e5 => if e5.size = 1 then if (x1 : U).flat = true then (U.bin .add x1 (.int .i64 1)).bind fun t6 => U.asInt x5 fun n7 => if 4 = 4 ∧ 0 ≤ n7 ∧ n7 < (((b5000.set (n2 : Int).toNat (.agg (us4.set 0 x1)))).length : Int) then if storable (.val t6) = true ∧ t6.size = 1 then ((b5000.set (n2 : Int).toNat (.agg (us4.set 0 x1)))[(n7 : Int).toNat]?).bind fun e8 => U.asAgg e8 fun us9 => if 1 = sizes (us9.take 1) then (us9[1]?).bind fun e10 => if e10.size = 1 then if (t6 : U).flat = true then (U.bin .add t6 (.int .i64 1)).bind fun t11 => U.asInt x5 fun n12 => if 4 = 4 ∧ 0 ≤ n12 ∧ n12 < ((((b5000.set (n2 : Int).toNat (.agg (us4.set 0 x1))).set (n7 : Int).toNat (.agg (us9.set 1 t6)))).length : Int) then if storable (.val t11) = true ∧ t11.size = 1 then (((b5000.set (n2 : Int).toNat (.agg (us4.set 0 x1))).set (n7 : Int).toNat (.agg (us9.set 1 t6)))[(n12 : Int).toNat]?).bind fun e13 => U.asAgg e13 fun us14 => if 2 = sizes (us14.take 2) then (us14[2]?).bind fun e15 => if e15.size = 1 then if (t11 : U).flat = true then (U.bin .add t11 (.int .i64 1)).bind fun t16 => U.asInt x5 fun n17 => if 4 = 4 ∧ 0 ≤ n17 ∧ n17 < (((((b5000.set (n2 : Int).toNat (.agg (us4.set 0 x1))).set (n7 : Int).toNat (.agg (us9.set 1 t6))).set (n12 : Int).toNat (.agg (us14.set 2 t11)))).length : Int) then if storable (.val t16) = true ∧ t16.size = 1 then ((((b5000.set (n2 : Int).toNat (.agg (us4.set 0 x1))).set (n7 : Int).toNat (.agg (us9.set 1 t6))).set (n12 : Int).toNat (.agg (us14.set 2 t11)))[(n17 : Int).toNat]?).bind fun e18 => U.asAgg e18 fun us19 => if 3 = sizes (us19.take 3) then (us19[3]?).bind fun e20 => if e20.size = 1 then if (t16 : U).flat = true then (U.bin .add t16 (.int .i64 1)).bind fun t21 => (U.bin .add x5 (.int .i64 1)).bind fun t22 => f39_l0 E t21 t22 ((((b5000.set (n2 : Int).toNat (.agg (us4.set 0 x1))).set (n7 : Int).toNat (.agg (us9.set 1 t6))).set (n12 : Int).toNat (.agg (us14.set 2 t11))).set (n17 : Int).toNat (.agg (us19.set 3 t16))) else none else none else none else none else none else none else none else none else none else none else none else none else none else none else none else none else none else none else none else none)
 (if (x1 : U).flat = true then some (.tup [x1, .sl 4 b5000]) else none) :=
 (loop_eq E _ _ _ _).trans (by kernel_rfl)
structure G_f39 (E : Env) : Prop where
  is : Is E 200085 2 f39_ac [(4, none)]
theorem f39_E {E : Env} (h : G_f39 E) (xs0 : List U) (a1 : U) : E 200085 (.agg [.tup [.sl 4 xs0]] :: [a1]) =
 f39_l0 E a1 (.int .i64 0) xs0 := (h.is _ rfl).trans ((runQ_M rfl).trans (by kernel_rfl))
def f28_ac : AC :=
 (.seq (rg [oo 2 (.mv (.c (.bool false)))])
 (.seq (rg [oo 3 (.mv (ci 1048576))])
 (.seq (rg [oo 11 (.mv (.t 0)),
  oo 12 (.mv (.t 3)),
  oo 13 (.call false 49 [(.t 11), (.t 12)]),
  oo 3 (.mv (.t 13))])
 (.seq (.seq (rg [oo 14 (.mv (.t 3)),
  oo 15 (.bin .lss (.t 14) (ci 0))])
 (.cond (.t 15) (.seq (rg [oo 2 (.mv (.c (.bool true)))])
 .ret) .skip))
 (.seq (rg [oo 16 (.mv (.t 0)),
  oo 17 (.call false 45 [(.t 16)]),
  oo 18 (.call false 422 [(.t 17)]),
  oo 4 (.mv (.t 18))])
 (.seq (rg [oo 19 (.mv (.t 0)),
  oo 20 (.callF 20 false [(.sl 4)] 45 [(.t 19)]),
  oo 5 (.mv (.t 20))])
 (.seq (rg [oo 21 (.mv (.t 5)),
  oo 22 (.callF 22 false [(.sl 4)] 421 [(.t 21)]),
  oo 6 (.mv (.t 22))])
 (.seq (.seq (rg [oo 23 (.mv (.t 6)),
  oo 24 (.mv (.t 4)),
  oo 25 (.call false 2 [(.t 23), (.t 24)]),
  oo 26 (.un .not (.t 25))])
 (.cond (.t 26) (.seq (rg [oo 2 (.mv (.c (.bool false)))])
 .ret) .skip))
 (.seq (.seq (rg [oo 27 (.mv (.t 5)),
  oo 28 (.mv (.t 0)),
  oo 29 (.call false 45 [(.t 28)]),
  oo 30 (.call false 46 [(.t 27), (.t 29)]),
  oo 31 (.un .not (.t 30))])
 (.cond (.t 31) (.seq (rg [oo 2 (.mv (.c (.bool false)))])
 .ret) .skip))
 (.seq (rg [oo 7 (.mv (ci 1))])
 (.seq (rg [oo 32 (.mv (.t 5)),
  oo 33 (.mv (.t 7)),
  oo 34 (.callM 4 287 (.t 32) [(.t 33)]),
  oo 7 (.mv (.t 34))])
 (.seq (.seq (rg [oo 35 (.mv (.t 7)),
  oo 36 (.bin .lss (.t 35) (ci 0)),
  oo 37 (.mv (.t 36)),
  ⟨some 38, .mv (.t 6), some (37, false)⟩,
  ⟨some 39, .mv (.t 4), some (37, false)⟩,
  ⟨some 40, .call false 2 [(.t 38), (.t 39)], some (37, false)⟩,
  ⟨some 41, .un .not (.t 40), some (37, false)⟩,
  oo 42 (.pick (.t 37) (.c (.bool true)) (.t 41))])
 (.cond (.t 42) (.seq (rg [oo 2 (.mv (.c (.bool false)))])
 .ret) .skip))
 (.seq (rg [oo 8 (.mv (ci 1))])
 (.seq (rg [oo 43 (.mv (.t 6)),
  oo 44 (.mv (.t 8)),
  oo 45 (.callM 4 85 (.t 43) [(.t 44)]),
  oo 8 (.mv (.t 45))])
 (.seq (rg [oo 9 (.mv (ci 1))])
 (.seq (rg [oo 46 (.mv (.t 6)),
  oo 47 (.mv (.t 9)),
  oo 48 (.call false 83 [(.t 46), (.t 47)]),
  oo 9 (.mv (.t 48))])
 (.seq (.seq (rg [oo 49 (.mv (.t 9)),
  oo 50 (.bin .lss (.t 49) (ci 0))])
 (.cond (.t 50) (.seq (rg [oo 2 (.mv (.c (.bool false)))])
 .ret) .skip))
 (.seq (.seq (rg [oo 51 (.mv (.t 9)),
  oo 52 (.mv (.t 8)),
  oo 53 (.bin .neq (.t 51) (.t 52))])
 (.cond (.t 53) (.seq (rg [oo 2 (.mv (.c (.bool false)))])
 .ret) .skip))
 (.seq (rg [oo 54 (.mv (.t 0)),
  oo 55 (.call false 45 [(.t 54)]),
  oo 56 (.call false 421 [(.t 55)]),
  oo 10 (.mv (.t 56))])
 (.seq (.seq (rg [oo 57 (.mv (.t 10)),
  oo 58 (.mv (.t 4)),
  oo 59 (.call false 2 [(.t 57), (.t 58)]),
  oo 60 (.un .not (.t 59))])
 (.cond (.t 60) (.seq (rg [oo 2 (.mv (.c (.bool false)))])
 .ret) .skip))
 (.seq (rg [oo 9 (.mv (ci 1))])
 (.seq (rg [oo 61 (.mv (.t 6)),
  oo 62 (.mv (.t 9)),
  oo 63 (.call false 83 [(.t 61), (.t 62)]),
  oo 9 (.mv (.t 63))])
 (.seq (.seq (rg [oo 64 (.mv (.t 9)),
  oo 65 (.bin .lss (.t 64) (ci 0))])
 (.cond (.t 65) (.seq (rg [oo 2 (.mv (.c (.bool false)))])
 .ret) .skip))
 (.seq (.seq (rg [oo 66 (.mv (.t 9)),
  oo 67 (.mv (.t 8)),
  oo 68 (.bin .neq (.t 66) (.t 67))])
 (.cond (.t 68) (.seq (rg [oo 2 (.mv (.c (.bool false)))])
 .ret) .skip))
 (.seq (rg [oo 2 (.mv (.c (.bool true)))])
 .ret)))))))))))))))))))))))))
structure G_f28 (E : Env) : Prop where
  is : Is E 420 1 f28_ac [(2, none)]
  c_f44 : G_f44 E
  c_f48 : G_f48 E
  c_f30 : G_f30 E
  c_f32 : G_f32 E
  c_f37 : G_f37 E
  c_f63 : G_f63 E
  c_f3 : G_f3 E
  c_f49 : G_f49 E
  c_f5 : G_f5 E
  c_f40 : G_f40 E
  c_f39 : G_f39 E
theorem f28_E {E : Env} (h : G_f28 E) (a0 : U) : E 420 [a0] =
 (E 49 [a0, (.int .i64 1048576)]).bind fun t1 => (U.bin .lss t1 (.int .i64 0)).bind fun t2 => U.asBool t2
 (some (.bool true))
 ((E 45 [a0]).bind fun t3 => (E 422 [t3]).bind fun t4 => (E 100045 [a0]).bind fun t5 => U.noTup t5 fun x6 => U.asSlK 4 x6 fun us7 => (E 100421 [(.sl 4 us7)]).bind fun t8 => U.noTup t8 fun x9 => U.asSlK 4 x9 fun us10 => (E 2 [(.sl 4 us10), t4]).bind fun t11 => U.asFlat t11 fun t12 => (U.un .not t12).bind fun t13 => U.asBool t13
 (some (.bool false))
 ((E 45 [a0]).bind fun t14 => (E 46 [(.sl 4 us7), t14]).bind fun t15 => U.asFlat t15 fun t16 => (U.un .not t16).bind fun t17 => U.asBool t17
 (some (.bool false))
 ((E 200287 (.agg [.tup [.sl 4 us7]] :: [(.int .i64 1)])).bind fun t18 => U.asMut 4 t18 fun y19 ys20 => U.asFlat y19 fun y19 => (U.bin .lss y19 (.int .i64 0)).bind fun t21 => U.asBool t21
 (some (.bool false))
 ((E 2 [(.sl 4 us10), t4]).bind fun t22 => U.asFlat t22 fun t23 => (U.un .not t23).bind fun t24 => U.asBool t24
 (some (.bool false))
 ((E 200085 (.agg [.tup [.sl 4 us10]] :: [(.int .i64 1)])).bind fun t25 => U.asMut 4 t25 fun y26 ys27 => U.asFlat y26 fun y26 => (E 83 [(.sl 4 ys27), (.int .i64 1)]).bind fun t28 => U.asFlat t28 fun t29 => (U.bin .lss t29 (.int .i64 0)).bind fun t30 => U.asBool t30
 (some (.bool false))
 ((U.bin .neq t29 y26).bind fun t31 => U.asBool t31
 (some (.bool false))
 ((E 45 [a0]).bind fun t32 => (E 421 [t32]).bind fun t33 => (E 2 [t33, t4]).bind fun t34 => (U.un .not t34).bind fun t35 => U.asBool t35
 (some (.bool false))
 ((E 83 [(.sl 4 ys27), (.int .i64 1)]).bind fun t36 => U.asFlat t36 fun t37 => (U.bin .lss t37 (.int .i64 0)).bind fun t38 => U.asBool t38
 (some (.bool false))
 ((U.bin .neq t37 y26).bind fun t39 => U.asBool t39
 (some (.bool false))
 (some (.bool true))))))))))) := (h.is _ rfl).trans ((runQ_V rfl).trans (by kernel_rfl))
end Go.Proofs.Ytlmnkhlkccipfaa.Am
