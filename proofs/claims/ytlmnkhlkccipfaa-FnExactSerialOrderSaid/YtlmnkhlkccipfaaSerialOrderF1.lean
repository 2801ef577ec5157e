import Derived.KernelRfl
import Derived.Test.YtlmnkhlkccipfaaAmW
import Derived.Test.YtlmnkhlkccipfaaSerialOrderF0
import Derived.Test.YtlmnkhlkccipfaaAmSo
namespace Go.Proofs.Ytlmnkhlkccipfaa.Am
open Go
set_option linter.unusedVariables false
set_option maxRecDepth 100000
def f41_b0 : AC :=
 (.seq (.seq (rg [oo 6 (.mv (.t 5)),
  oo 7 (.mv (.t 0)),
  oo 8 (.len false (.t 7)),
  oo 9 (.bin .lss (.t 6) (.t 8))])
 (.cond (.t 9) .skip (.exit 0)))
 (.seq (.block 1 (.seq (.seq (rg [oo 12 (.mv (.t 0)),
  oo 13 (.mv (.t 5)),
  oo 14 (.iaddr 1 (.t 12) (.t 13)),
  oo 15 (.load false 1 (.t 14)),
  oo 16 (.mv (.t 1)),
  oo 17 (.bin .neq (.t 15) (.t 16))])
 (.cond (.t 17) (.seq (rg [oo 4 (.mv (ci (-1)))])
 .ret) .skip))
 (rg [oo 18 (.mv (.t 1)),
  oo 19 (.bin .add (.t 18) (ci 1)),
  oo 1 (.mv (.t 19))])))
 (rg [oo 10 (.mv (.t 5)),
  oo 11 (.bin .add (.t 10) (ci 1)),
  oo 5 (.mv (.t 11))])))
def f41_r0 : AC :=
 (.seq (rg [oo 20 (.mv (.t 1)),
  oo 4 (.mv (.t 20))])
 .ret)
def f41_ac : AC :=
 (.seq (rg [oo 4 (.mv (ci 0))])
 (.seq (.seq (rg [oo 5 (.mv (ci 0))])
 (.block 0 (.loop ⟨[0, 1, 5], [], []⟩ f41_b0)))
 f41_r0))
noncomputable def f41_l0 (E : Env) (x0 : U) (x1 : U) (x5 : U) : Option U := loopK (roundOf E ⟨[0, 1, 5], [], []⟩ f41_b0 (blockK 0 (seqK (fun s => exec E f41_r0 s (finish [(4, none)])) (finish [(4, none)])))) ([.val x0, .val x1, .val x5], [])
theorem f41_l0_eq (E : Env) (x0 : U) (x1 : U) (x5 : U) : f41_l0 E x0 x1 x5 =
 (U.lenOf false x0).bind fun n1 => (U.bin .lss x5 (.int .i64 (n1 : Int))).bind fun t2 => U.asBool t2
 (U.asInt x5 fun n3 => U.elemAt 1 x0 n3 fun e4 => U.asVar false 1 e4 fun e5 => (U.bin .neq e5 x1).bind fun t6 => U.asBool t6
 (some (.int .i64 (-1)))
 ((U.bin .add x1 (.int .i64 1)).bind fun t7 => (U.bin .add x5 (.int .i64 1)).bind fun t8 => f41_l0 E x0 t7 t8))
 (some x1) :=
 (loop_eq E _ _ _ _).trans (by kernel_rfl)
structure G_f41 (E : Env) : Prop where
  is : Is E 90 2 f41_ac [(4, none)]
theorem f41_E {E : Env} (h : G_f41 E) (a0 a1 : U) : E 90 [a0, a1] =
 f41_l0 E a0 a1 (.int .i64 0) := (h.is _ rfl).trans ((runQ_V rfl).trans (by kernel_rfl))
def f58_b0 : AC :=
 (.seq (.seq (rg [oo 8 (.mv (.t 4)),
  oo 9 (.mv (.t 0)),
  oo 10 (.len false (.t 9)),
  oo 11 (.bin .lss (.t 8) (.t 10))])
 (.cond (.t 11) .skip (.exit 0)))
 (.seq (.block 1 (rg [oo 14 (.mv (.t 3)),
  oo 15 (.mv (.t 4)),
  oo 16 (.mv (.t 0)),
  oo 17 (.mv (.t 4)),
  oo 18 (.iaddr 2 (.t 16) (.t 17)),
  oo 19 (.load true 2 (.t 18)),
  oo 20 (.call false 29 [(.t 19)]),
  oo 21 (.iaddr 2 (.t 14) (.t 15)),
  ⟨none, .store 2 (.t 21) (.t 20), none⟩]))
 (rg [oo 12 (.mv (.t 4)),
  oo 13 (.bin .add (.t 12) (ci 1)),
  oo 4 (.mv (.t 13))])))
def f58_r0 : AC :=
 (.seq (rg [oo 22 (.mv (.t 3)),
  oo 2 (.mv (.t 22))])
 .ret)
def f58_ac : AC :=
 (.seq (rg [oo 2 (.mv (.c (.nsl 2)))])
 (.seq (rg [oo 5 (.mv (.t 0)),
  oo 6 (.len false (.t 5)),
  oo 7 (.mkslice 7 2 16 (.agg [(.int .i64 0), (.int .i64 0)]) (.t 6) (.t 6)),
  oo 3 (.mv (.t 7))])
 (.seq (.seq (rg [oo 4 (.mv (ci 0))])
 (.block 0 (.loop ⟨[0, 4], [(3, 2, false)], []⟩ f58_b0)))
 f58_r0)))
noncomputable def f58_l0 (E : Env) (x0 : U) (x4 : U) (c3 : List U) : Option U := loopK (roundOf E ⟨[0, 4], [(3, 2, false)], []⟩ f58_b0 (blockK 0 (seqK (fun s => exec E f58_r0 s (finishF [(2, none)])) (finishF [(2, none)])))) ([.val x0, .val x4], [.vir (.asl 2 c3)])
theorem f58_l0_eq (E : Env) (x0 : U) (x4 : U) (c3 : List U) : f58_l0 E x0 x4 c3 =
 (U.lenOf false x0).bind fun n2 => (U.bin .lss x4 (.int .i64 (n2 : Int))).bind fun t3 => U.asBool t3
 (U.asInt x4 fun n4 => U.elemAt 2 x0 n4 fun e5 => U.asVar true 2 e5 fun e6 => (E 29 [e6]).bind fun t7 => U.asInt x4 fun n8 => if 2 = 2 ∧ 0 ≤ n8 ∧ n8 < ((c3).length : Int) then if storable (.val t7) = true ∧ t7.size = 2 then (c3[(n8 : Int).toNat]?).bind fun e9 => if e9.size = 2 then (U.bin .add x4 (.int .i64 1)).bind fun t10 => f58_l0 E x0 t10 (c3.set (n8 : Int).toNat t7) else none else none else none)
 (if U.flat.flats c3 = true then some (.sl 2 c3) else none) :=
 (loop_eq E _ _ _ _).trans (by kernel_rfl)
structure G_f58 (E : Env) : Prop where
  is : Is E 100028 1 f58_ac [(2, none)]
  c_f56 : G_f56 E
theorem f58_E {E : Env} (h : G_f58 E) (a0 : U) : E 100028 [a0] =
 (U.lenOf false a0).bind fun n1 => if 0 ≤ (n1 : Int) ∧ (n1 : Int) ≤ (n1 : Int) ∧ (n1 : Int) * 16 ≤ 140737488355328 ∧ ((.agg [(.int .i64 0), (.int .i64 0)]) : U).size = 2 then f58_l0 E a0 (.int .i64 0) (List.replicate ((n1 : Int) : Int).toNat (.agg [(.int .i64 0), (.int .i64 0)])) else none := (h.is _ rfl).trans ((runQ_F rfl).trans (by kernel_rfl))
def f61_b0 : AC :=
 (.seq (.seq (rg [oo 8 (.mv (.t 4)),
  oo 9 (.mv (.t 0)),
  oo 10 (.len false (.t 9)),
  oo 11 (.bin .lss (.t 8) (.t 10))])
 (.cond (.t 11) .skip (.exit 0)))
 (.seq (.block 1 (rg [oo 14 (.mv (.t 3)),
  oo 15 (.mv (.t 4)),
  oo 16 (.mv (.t 0)),
  oo 17 (.mv (.t 4)),
  oo 18 (.iaddr 2 (.t 16) (.t 17)),
  oo 19 (.load true 2 (.t 18)),
  oo 20 (.call false 30 [(.t 19)]),
  oo 21 (.iaddr 2 (.t 14) (.t 15)),
  ⟨none, .store 2 (.t 21) (.t 20), none⟩]))
 (rg [oo 12 (.mv (.t 4)),
  oo 13 (.bin .add (.t 12) (ci 1)),
  oo 4 (.mv (.t 13))])))
def f61_r0 : AC :=
 (.seq (rg [oo 22 (.mv (.t 3)),
  oo 2 (.mv (.t 22))])
 .ret)
def f61_ac : AC :=
 (.seq (rg [oo 2 (.mv (.c (.nsl 2)))])
 (.seq (rg [oo 5 (.mv (.t 0)),
  oo 6 (.len false (.t 5)),
  oo 7 (.mkslice 7 2 16 (.agg [(.int .i64 0), (.int .i64 0)]) (.t 6) (.t 6)),
  oo 3 (.mv (.t 7))])
 (.seq (.seq (rg [oo 4 (.mv (ci 0))])
 (.block 0 (.loop ⟨[0, 4], [(3, 2, false)], []⟩ f61_b0)))
 f61_r0)))
noncomputable def f61_l0 (E : Env) (x0 : U) (x4 : U) (c3 : List U) : Option U := loopK (roundOf E ⟨[0, 4], [(3, 2, false)], []⟩ f61_b0 (blockK 0 (seqK (fun s => exec E f61_r0 s (finishF [(2, none)])) (finishF [(2, none)])))) ([.val x0, .val x4], [.vir (.asl 2 c3)])
theorem f61_l0_eq (E : Env) (x0 : U) (x4 : U) (c3 : List U) : f61_l0 E x0 x4 c3 =
 (U.lenOf false x0).bind fun n2 => (U.bin .lss x4 (.int .i64 (n2 : Int))).bind fun t3 => U.asBool t3
 (U.asInt x4 fun n4 => U.elemAt 2 x0 n4 fun e5 => U.asVar true 2 e5 fun e6 => (E 30 [e6]).bind fun t7 => U.asInt x4 fun n8 => if 2 = 2 ∧ 0 ≤ n8 ∧ n8 < ((c3).length : Int) then if storable (.val t7) = true ∧ t7.size = 2 then (c3[(n8 : Int).toNat]?).bind fun e9 => if e9.size = 2 then (U.bin .add x4 (.int .i64 1)).bind fun t10 => f61_l0 E x0 t10 (c3.set (n8 : Int).toNat t7) else none else none else none)
 (if U.flat.flats c3 = true then some (.sl 2 c3) else none) :=
 (loop_eq E _ _ _ _).trans (by kernel_rfl)
structure G_f61 (E : Env) : Prop where
  is : Is E 100027 1 f61_ac [(2, none)]
  c_f59 : G_f59 E
theorem f61_E {E : Env} (h : G_f61 E) (a0 : U) : E 100027 [a0] =
 (U.lenOf false a0).bind fun n1 => if 0 ≤ (n1 : Int) ∧ (n1 : Int) ≤ (n1 : Int) ∧ (n1 : Int) * 16 ≤ 140737488355328 ∧ ((.agg [(.int .i64 0), (.int .i64 0)]) : U).size = 2 then f61_l0 E a0 (.int .i64 0) (List.replicate ((n1 : Int) : Int).toNat (.agg [(.int .i64 0), (.int .i64 0)])) else none := (h.is _ rfl).trans ((runQ_F rfl).trans (by kernel_rfl))
def f54_ac : AC :=
 (.seq (rg [oo 1 (.box false 1 (.t 0)),
  oo 2 (.alloc 2 (.agg [(.int .i64 0), (.int .i64 0), (.nsl 2), (.nsl 2)]))])
 (.seq (rg [oo 3 (.alloc 3 (.agg [(.int .i64 0), (.int .i64 0), (.nsl 2), (.nsl 2)]))])
 (.seq (rg [oo 4 (.faddr 0 0 (.t 1)),
  oo 5 (.load false 1 (.t 4)),
  oo 6 (.faddr 0 0 (.t 3)),
  ⟨none, .store 1 (.t 6) (.t 5), none⟩])
 (.seq (rg [oo 7 (.faddr 1 1 (.t 1)),
  oo 8 (.load false 1 (.t 7)),
  oo 9 (.faddr 1 1 (.t 3)),
  ⟨none, .store 1 (.t 9) (.t 8), none⟩])
 (.seq (rg [oo 10 (.faddr 2 2 (.t 1)),
  oo 11 (.load false 1 (.t 10)),
  oo 12 (.callF 12 false [(.sl 2)] 28 [(.t 11)]),
  oo 13 (.faddr 2 2 (.t 3)),
  ⟨none, .storeM 3000 1 (.t 13) (.t 12), none⟩])
 (.seq (rg [oo 14 (.faddr 3 3 (.t 1)),
  oo 15 (.load false 1 (.t 14)),
  oo 16 (.callF 16 false [(.sl 2)] 27 [(.t 15)]),
  oo 17 (.faddr 3 3 (.t 3)),
  ⟨none, .storeM 3002 1 (.t 17) (.t 16), none⟩])
 (.seq (rg [oo 18 (.loadO (.agg [.int, .int, (.sl 2), (.sl 2)]) (.t 3)),
  ⟨none, .storeM 3001 4 (.t 2) (.t 18), none⟩])
 .ret)))))))
structure G_f54 (E : Env) : Prop where
  is : Is E 100051 1 f54_ac [(2, some (true, 4))]
  c_f58 : G_f58 E
  c_f61 : G_f61 E
theorem f54_E {E : Env} (h : G_f54 E) (a0 : U) : E 100051 [a0] =
 U.noTup a0 fun x1 => U.asAgg x1 fun us2 => if 0 = sizes (us2.take 0) then (us2[0]?).bind fun e3 => U.asVar false 1 e3 fun e4 => if storable (.val e4) = true ∧ e4.size = 1 then U.asAgg x1 fun us5 => if 1 = sizes (us5.take 1) then (us5[1]?).bind fun e6 => U.asVar false 1 e6 fun e7 => if storable (.val e7) = true ∧ e7.size = 1 then if 1 = sizes [e4] then U.asAgg x1 fun us8 => if 2 = sizes (us8.take 2) then (us8[2]?).bind fun e9 => U.asVar false 1 e9 fun e10 => (E 100028 [e10]).bind fun t11 => U.noTup t11 fun x12 => U.asSlK 2 x12 fun us13 => if 2 = sizes [e4, e7] then if 2 = sizes [e4, e7] then if 2 = dsizes [.val e4, .val e7] then U.asAgg x1 fun us14 => if 3 = sizes (us14.take 3) then (us14[3]?).bind fun e15 => U.asVar false 1 e15 fun e16 => (E 100027 [e16]).bind fun t17 => U.noTup t17 fun x18 => U.asSlK 2 x18 fun us19 => if 3 = dsizes [.val e4, .val e7, .own (.sl 2 us13)] then if 3 = dsizes [.val e4, .val e7, .own (.sl 2 us13)] then if 3 = dsizes [.val e4, .val e7, .own (.sl 2 us13)] then U.asInt e4 fun n20 => U.asInt e7 fun n21 => if 2 = dsizes [.val e4, .val e7] then if 2 = dsizes [.val e4, .val e7] then if 3 = dsizes [.val e4, .val e7, .junk 1] then if 3 = dsizes [.val e4, .val e7, .junk 1] then some (.agg [(.int .i64 n20), (.int .i64 n21), (.sl 2 us13), (.sl 2 us19)]) else none else none else none else none else none else none else none else none else none else none else none else none else none else none else none else none else none := (h.is _ rfl).trans ((runQ_F rfl).trans (by kernel_rfl))
def f53_b0 : AC :=
 (.seq (.seq (rg [oo 8 (.mv (.t 4)),
  oo 9 (.mv (.t 0)),
  oo 10 (.len false (.t 9)),
  oo 11 (.bin .lss (.t 8) (.t 10))])
 (.cond (.t 11) .skip (.exit 0)))
 (.seq (.block 1 (rg [oo 14 (.mv (.t 3)),
  oo 15 (.mv (.t 4)),
  oo 16 (.mv (.t 0)),
  oo 17 (.mv (.t 4)),
  oo 18 (.iaddr 4 (.t 16) (.t 17)),
  oo 19 (.load true 4 (.t 18)),
  oo 20 (.callF 20 false [(.agg [.int, .int, (.sl 2), (.sl 2)])] 51 [(.t 19)]),
  oo 21 (.iaddr 4 (.t 14) (.t 15)),
  ⟨none, .storeE 4 (.t 21) (.t 20), none⟩]))
 (rg [oo 12 (.mv (.t 4)),
  oo 13 (.bin .add (.t 12) (ci 1)),
  oo 4 (.mv (.t 13))])))
def f53_r0 : AC :=
 (.seq (rg [oo 22 (.mv (.t 3)),
  oo 2 (.mv (.t 22))])
 .ret)
def f53_ac : AC :=
 (.seq (rg [oo 2 (.mv (.c (.nsl 4)))])
 (.seq (rg [oo 5 (.mv (.t 0)),
  oo 6 (.len false (.t 5)),
  oo 7 (.mkslice 7 4 64 (.agg [(.int .i64 0), (.int .i64 0), (.nsl 2), (.nsl 2)]) (.t 6) (.t 6)),
  oo 3 (.mv (.t 7))])
 (.seq (.seq (rg [oo 4 (.mv (ci 0))])
 (.block 0 (.loop ⟨[0, 4], [(3, 4, true)], []⟩ f53_b0)))
 f53_r0)))
noncomputable def f53_l0 (E : Env) (x0 : U) (x4 : U) (c3 : List U) : Option U := loopK (roundOf E ⟨[0, 4], [(3, 4, true)], []⟩ f53_b0 (blockK 0 (seqK (fun s => exec E f53_r0 s (finishF [(2, none)])) (finishF [(2, none)])))) ([.val x0, .val x4], [.vir (.own (.sl 4 c3))])
theorem f53_l0_eq (E : Env) (x0 : U) (x4 : U) (c3 : List U) : f53_l0 E x0 x4 c3 =
 (U.lenOf false x0).bind fun n2 => (U.bin .lss x4 (.int .i64 (n2 : Int))).bind fun t3 => U.asBool t3
 (U.asInt x4 fun n4 => U.elemAt 4 x0 n4 fun e5 => U.asVar true 4 e5 fun e6 => (E 100051 [e6]).bind fun t7 => U.noTup t7 fun x8 => U.asAgg x8 fun us9 => (match us9 with
 | u10 :: us11 => (U.asInt u10 fun n12 => (match us11 with
 | u13 :: us14 => (U.asInt u13 fun n15 => (match us14 with
 | u16 :: us17 => (U.asSlK 2 u16 fun us18 => (match us17 with
 | u19 :: us20 => (U.asSlK 2 u19 fun us21 => (match us20 with
 | [] => (U.asInt x4 fun n22 => if 4 = 4 ∧ 0 ≤ n22 ∧ n22 < (c3.length : Int) then (c3[(n22 : Int).toNat]?).bind fun e23 => if e23.size = 4 then (U.bin .add x4 (.int .i64 1)).bind fun t24 => f53_l0 E x0 t24 (c3.set (n22 : Int).toNat (.agg [(.int .i64 n12), (.int .i64 n15), (.sl 2 us18), (.sl 2 us21)])) else none else none)
 | _ => none))
 | [] => none))
 | [] => none))
 | [] => none))
 | [] => none))
 (some (.sl 4 c3)) :=
 (loop_eq E _ _ _ _).trans (by kernel_rfl)
structure G_f53 (E : Env) : Prop where
  is : Is E 100045 1 f53_ac [(2, none)]
  c_f54 : G_f54 E
theorem f53_E {E : Env} (h : G_f53 E) (a0 : U) : E 100045 [a0] =
 (U.lenOf false a0).bind fun n1 => if 0 ≤ (n1 : Int) ∧ (n1 : Int) ≤ (n1 : Int) ∧ (n1 : Int) * 64 ≤ 140737488355328 ∧ ((.agg [(.int .i64 0), (.int .i64 0), (.nsl 2), (.nsl 2)]) : U).size = 4 then if U.flat.flats (List.replicate ((n1 : Int) : Int).toNat (.agg [(.int .i64 0), (.int .i64 0), (.nsl 2), (.nsl 2)])) = true then f53_l0 E a0 (.int .i64 0) (List.replicate ((n1 : Int) : Int).toNat (.agg [(.int .i64 0), (.int .i64 0), (.nsl 2), (.nsl 2)])) else none else none := (h.is _ rfl).trans ((runQ_F rfl).trans (by kernel_rfl))
def f15_b0 : AC :=
 (.seq (.seq (rg [oo 13 (.loadO (.sl 1) (.t 5)),
  oo 14 (.len false (.t 13)),
  oo 15 (.mv (.t 0)),
  oo 16 (.len false (.t 15)),
  oo 17 (.bin .lss (.t 14) (.t 16))])
 (.cond (.t 17) .skip (.exit 0)))
 (.block 1 (.seq (rg [oo 18 (.mv (.t 0)),
  oo 19 (.mkfn 436 [(.t 5), (.t 4)]),
  oo 20 (.call false 253 [(.t 18), (.t 19)]),
  oo 6 (.mv (.t 20))])
 (.seq (.seq (rg [oo 21 (.mv (.t 6)),
  oo 22 (.bin .lss (.t 21) (ci 0))])
 (.cond (.t 22) (.seq (rg [oo 2 (.mv (.c (.nsl 1))),
  oo 3 (.mv (.c (.bool false)))])
 .ret) .skip))
 (.region 7 [oo 23 (.loadO (.sl 1) (.t 5)),
  oo 24 (.mv (.t 0)),
  oo 25 (.mv (.t 6)),
  oo 26 (.iaddr 4 (.t 24) (.t 25)),
  oo 27 (.faddr 0 0 (.t 26)),
  oo 28 (.load false 1 (.t 27)),
  oo 29 (.bslice 0 29 1 1 (.int .i64 0) [(0, (.t 28))]),
  oo 30 (.append false 30 1 8 (.t 23) (.t 29)),
  ⟨none, .storeM 3001 1 (.t 5) (.t 30), none⟩])))))
def f15_r0 : AC :=
 (.seq (rg [oo 31 (.loadO (.sl 1) (.t 5)),
  oo 2 (.mv (.t 31)),
  oo 3 (.mv (.c (.bool true)))])
 .ret)
def f15_ac : AC :=
 (.seq (rg [oo 2 (.mv (.c (.nsl 1))),
  oo 3 (.mv (.c (.bool false)))])
 (.seq (.seq (rg [oo 7 (.mv (.t 0)),
  oo 8 (.call false 247 [(.t 7)]),
  oo 9 (.un .not (.t 8))])
 (.cond (.t 9) (.seq (rg [oo 2 (.mv (.c (.nsl 1))),
  oo 3 (.mv (.c (.bool false)))])
 .ret) .skip))
 (.seq (rg [oo 10 (.mv (.t 0)),
  oo 11 (.call false 357 [(.t 10)]),
  oo 12 (.bslice 2 12 1 0 (.int .i64 0) []),
  oo 4 (.alloc 4 (.nsl 4)),
  oo 5 (.alloc 5 (.nsl 1)),
  ⟨none, .store 1 (.t 4) (.t 11), none⟩,
  ⟨none, .storeM 3000 1 (.t 5) (.t 12), none⟩])
 (.seq (.block 0 (.loop ⟨[0, 4, 5], [], [(4, false), (5, true)]⟩ f15_b0))
 f15_r0))))
noncomputable def f15_l0 (E : Env) (x0 : U) (b4 : U) (b5 : List U) : Option U := loopK (roundOf E ⟨[0, 4, 5], [], [(4, false), (5, true)]⟩ f15_b0 (blockK 0 (seqK (fun s => exec E f15_r0 s (finishF [(2, none), (3, none)])) (finishF [(2, none), (3, none)])))) ([.val x0, .ptr 4 [], .ptr 5 []], [.box (.val b4), .box (.own (.sl 1 b5))])
theorem f15_l0_eq (E : Env) (x0 : U) (b4 : U) (b5 : List U) : f15_l0 E x0 b4 b5 =
 (U.lenOf false x0).bind fun n4 => (U.bin .lss (.int .i64 (b5.length : Int)) (.int .i64 (n4 : Int))).bind fun t5 => U.asBool t5
 ((E 253 [x0, (.fn 436 [(.vp (.sl 1 b5)), (.vp b4)])]).bind fun t6 => U.asFlat t6 fun t7 => (U.bin .lss t7 (.int .i64 0)).bind fun t8 => U.asBool t8
 (some (.tup [(.sl 1 []), (.bool false)]))
 (U.asInt t7 fun n9 => U.elemAt 4 x0 n9 fun e10 => U.fieldAt 0 0 e10 fun f11 => U.asVar false 1 f11 fun e12 => if partable (.val e12) = true ∧ e12.size = 1 then if 1 = 1 ∧ U.flat.flats [e12] = true ∧ ((b5).length + ([e12] : List U).length) * 8 ≤ 140737488355328 then f15_l0 E x0 b4 (b5 ++ [e12]) else none else none))
 (some (.tup [(.sl 1 b5), (.bool true)])) :=
 (loop_eq E _ _ _ _).trans (by kernel_rfl)
structure G_f15 (E : Env) : Prop where
  is : Is E 100434 1 f15_ac [(2, none), (3, none)]
  c_f9 : G_f9 E
  c_f21 : G_f21 E
  c_f67 : G_f67 E
  c_f14 : G_f14 E
theorem f15_E {E : Env} (h : G_f15 E) (a0 : U) : E 100434 [a0] =
 (E 247 [a0]).bind fun t1 => (U.un .not t1).bind fun t2 => U.asBool t2
 (some (.tup [(.sl 1 []), (.bool false)]))
 ((E 357 [a0]).bind fun t3 => if storable (.val t3) = true ∧ t3.size = 1 then f15_l0 E a0 t3 [] else none) := (h.is _ rfl).trans ((runQ_F rfl).trans (by kernel_rfl))
def f45_b0 : AC :=
 (.seq (.seq (rg [oo 6 (.mv (.t 5)),
  oo 7 (.mv (.t 0)),
  oo 8 (.len false (.t 7)),
  oo 9 (.bin .lss (.t 6) (.t 8))])
 (.cond (.t 9) .skip (.exit 0)))
 (.seq (.block 1 (.seq (rg [oo 12 (.mv (.t 0)),
  oo 13 (.mv (.t 5)),
  oo 14 (.mv (.t 1)),
  oo 15 (.iaddr 2 (.t 12) (.t 13)),
  oo 16 (.faddr 0 0 (.t 15)),
  ⟨none, .store 1 (.t 16) (.t 14), none⟩])
 (.seq (rg [oo 17 (.mv (.t 1)),
  oo 18 (.bin .add (.t 17) (ci 1)),
  oo 1 (.mv (.t 18))])
 (.seq (rg [oo 19 (.mv (.t 0)),
  oo 20 (.mv (.t 5)),
  oo 21 (.mv (.t 1)),
  oo 22 (.iaddr 2 (.t 19) (.t 20)),
  oo 23 (.faddr 1 1 (.t 22)),
  ⟨none, .store 1 (.t 23) (.t 21), none⟩])
 (rg [oo 24 (.mv (.t 1)),
  oo 25 (.bin .add (.t 24) (ci 1)),
  oo 1 (.mv (.t 25))])))))
 (rg [oo 10 (.mv (.t 5)),
  oo 11 (.bin .add (.t 10) (ci 1)),
  oo 5 (.mv (.t 11))])))
def f45_r0 : AC :=
 (.seq (rg [oo 26 (.mv (.t 1)),
  oo 4 (.mv (.t 26))])
 .ret)
def f45_ac : AC :=
 (.seq (rg [oo 4 (.mv (ci 0))])
 (.seq (.seq (rg [oo 5 (.mv (ci 0))])
 (.block 0 (.loop ⟨[0, 1, 5], [], [(5000, true)]⟩ f45_b0)))
 f45_r0))
noncomputable def f45_l0 (E : Env) (x1 : U) (x5 : U) (b5000 : List U) : Option U := loopK (roundOf E ⟨[0, 1, 5], [], [(5000, true)]⟩ f45_b0 (blockK 0 (seqK (fun s => exec E f45_r0 s (finishM 2 [(4, none)])) (finishM 2 [(4, none)])))) ([.ref 5000 [] 2 none, .val x1, .val x5], [.vir (.own (.sl 2 b5000))])
theorem f45_l0_eq (E : Env) (x1 : U) (x5 : U) (b5000 : List U) : f45_l0 E x1 x5 b5000 =
 (U.bin .lss x5 (.int .i64 (b5000.length : Int))).bind fun t1 => U.asBool t1
 (U.asInt x5 fun n2 => if 2 = 2 ∧ 0 ≤ n2 ∧ n2 < (b5000.length : Int) then if storable (.val x1) = true ∧ x1.size = 1 then (b5000[(n2 : Int).toNat]?).bind fun e3 => U.asAgg e3 fun us4 => if 0 = sizes (us4.take 0) then (us4[0]?).bind fun e5 => if e5.size = 1 then if (x1 : U).flat = true then (U.bin .add x1 (.int .i64 1)).bind fun t6 => U.asInt x5 fun n7 => if 2 = 2 ∧ 0 ≤ n7 ∧ n7 < (((b5000.set (n2 : Int).toNat (.agg (us4.set 0 x1)))).length : Int) then if storable (.val t6) = true ∧ t6.size = 1 then ((b5000.set (n2 : Int).toNat (.agg (us4.set 0 x1)))[(n7 : Int).toNat]?).bind fun e8 => U.asAgg e8 fun us9 => if 1 = sizes (us9.take 1) then (us9[1]?).bind fun e10 => if e10.size = 1 then if (t6 : U).flat = true then (U.bin .add t6 (.int .i64 1)).bind fun t11 => (U.bin .add x5 (.int .i64 1)).bind fun t12 => f45_l0 E t11 t12 ((b5000.set (n2 : Int).toNat (.agg (us4.set 0 x1))).set (n7 : Int).toNat (.agg (us9.set 1 t6))) else none else none else none else none else none else none else none else none else none else none)
 (if (x1 : U).flat = true then some (.tup [x1, .sl 2 b5000]) else none) :=
 (loop_eq E _ _ _ _).trans (by kernel_rfl)
structure G_f45 (E : Env) : Prop where
  is : Is E 200095 2 f45_ac [(4, none)]
theorem f45_E {E : Env} (h : G_f45 E) (xs0 : List U) (a1 : U) : E 200095 (.agg [.tup [.sl 2 xs0]] :: [a1]) =
 f45_l0 E a1 (.int .i64 0) xs0 := (h.is _ rfl).trans ((runQ_M rfl).trans (by kernel_rfl))
def f46_b0 : AC :=
 (.seq (.seq (rg [oo 6 (.mv (.t 5)),
  oo 7 (.mv (.t 0)),
  oo 8 (.len false (.t 7)),
  oo 9 (.bin .lss (.t 6) (.t 8))])
 (.cond (.t 9) .skip (.exit 0)))
 (.seq (.block 1 (.seq (rg [oo 12 (.mv (.t 0)),
  oo 13 (.mv (.t 5)),
  oo 14 (.mv (.t 1)),
  oo 15 (.iaddr 2 (.t 12) (.t 13)),
  oo 16 (.faddr 0 0 (.t 15)),
  ⟨none, .store 1 (.t 16) (.t 14), none⟩])
 (.seq (rg [oo 17 (.mv (.t 1)),
  oo 18 (.bin .add (.t 17) (ci 1)),
  oo 1 (.mv (.t 18))])
 (.seq (rg [oo 19 (.mv (.t 0)),
  oo 20 (.mv (.t 5)),
  oo 21 (.mv (.t 1)),
  oo 22 (.iaddr 2 (.t 19) (.t 20)),
  oo 23 (.faddr 1 1 (.t 22)),
  ⟨none, .store 1 (.t 23) (.t 21), none⟩])
 (rg [oo 24 (.mv (.t 1)),
  oo 25 (.bin .add (.t 24) (ci 1)),
  oo 1 (.mv (.t 25))])))))
 (rg [oo 10 (.mv (.t 5)),
  oo 11 (.bin .add (.t 10) (ci 1)),
  oo 5 (.mv (.t 11))])))
def f46_r0 : AC :=
 (.seq (rg [oo 26 (.mv (.t 1)),
  oo 4 (.mv (.t 26))])
 .ret)
def f46_ac : AC :=
 (.seq (rg [oo 4 (.mv (ci 0))])
 (.seq (.seq (rg [oo 5 (.mv (ci 0))])
 (.block 0 (.loop ⟨[0, 1, 5], [], [(5000, true)]⟩ f46_b0)))
 f46_r0))
noncomputable def f46_l0 (E : Env) (x1 : U) (x5 : U) (b5000 : List U) : Option U := loopK (roundOf E ⟨[0, 1, 5], [], [(5000, true)]⟩ f46_b0 (blockK 0 (seqK (fun s => exec E f46_r0 s (finishM 2 [(4, none)])) (finishM 2 [(4, none)])))) ([.ref 5000 [] 2 none, .val x1, .val x5], [.vir (.own (.sl 2 b5000))])
theorem f46_l0_eq (E : Env) (x1 : U) (x5 : U) (b5000 : List U) : f46_l0 E x1 x5 b5000 =
 (U.bin .lss x5 (.int .i64 (b5000.length : Int))).bind fun t1 => U.asBool t1
 (U.asInt x5 fun n2 => if 2 = 2 ∧ 0 ≤ n2 ∧ n2 < (b5000.length : Int) then if storable (.val x1) = true ∧ x1.size = 1 then (b5000[(n2 : Int).toNat]?).bind fun e3 => U.asAgg e3 fun us4 => if 0 = sizes (us4.take 0) then (us4[0]?).bind fun e5 => if e5.size = 1 then if (x1 : U).flat = true then (U.bin .add x1 (.int .i64 1)).bind fun t6 => U.asInt x5 fun n7 => if 2 = 2 ∧ 0 ≤ n7 ∧ n7 < (((b5000.set (n2 : Int).toNat (.agg (us4.set 0 x1)))).length : Int) then if storable (.val t6) = true ∧ t6.size = 1 then ((b5000.set (n2 : Int).toNat (.agg (us4.set 0 x1)))[(n7 : Int).toNat]?).bind fun e8 => U.asAgg e8 fun us9 => if 1 = sizes (us9.take 1) then (us9[1]?).bind fun e10 => if e10.size = 1 then if (t6 : U).flat = true then (U.bin .add t6 (.int .i64 1)).bind fun t11 => (U.bin .add x5 (.int .i64 1)).bind fun t12 => f46_l0 E t11 t12 ((b5000.set (n2 : Int).toNat (.agg (us4.set 0 x1))).set (n7 : Int).toNat (.agg (us9.set 1 t6))) else none else none else none else none else none else none else none else none else none else none)
 (if (x1 : U).flat = true then some (.tup [x1, .sl 2 b5000]) else none) :=
 (loop_eq E _ _ _ _).trans (by kernel_rfl)
structure G_f46 (E : Env) : Prop where
  is : Is E 200232 2 f46_ac [(4, none)]
theorem f46_E {E : Env} (h : G_f46 E) (xs0 : List U) (a1 : U) : E 200232 (.agg [.tup [.sl 2 xs0]] :: [a1]) =
 f46_l0 E a1 (.int .i64 0) xs0 := (h.is _ rfl).trans ((runQ_M rfl).trans (by kernel_rfl))
def f43_b0 : AC :=
 (.seq (.seq (rg [oo 6 (.mv (.t 5)),
  oo 7 (.mv (.t 0)),
  oo 8 (.len false (.t 7)),
  oo 9 (.bin .lss (.t 6) (.t 8))])
 (.cond (.t 9) .skip (.exit 0)))
 (.seq (.block 1 (.seq (rg [oo 12 (.mv (.t 0)),
  oo 13 (.mv (.t 5)),
  oo 14 (.mv (.t 1)),
  oo 15 (.iaddr 4 (.t 12) (.t 13)),
  oo 16 (.faddr 0 0 (.t 15)),
  ⟨none, .store 1 (.t 16) (.t 14), none⟩])
 (.seq (rg [oo 17 (.mv (.t 1)),
  oo 18 (.bin .add (.t 17) (ci 1)),
  oo 1 (.mv (.t 18))])
 (.seq (rg [oo 19 (.mv (.t 0)),
  oo 20 (.mv (.t 5)),
  oo 21 (.mv (.t 1)),
  oo 22 (.iaddr 4 (.t 19) (.t 20)),
  oo 23 (.faddr 1 1 (.t 22)),
  ⟨none, .store 1 (.t 23) (.t 21), none⟩])
 (.seq (rg [oo 24 (.mv (.t 1)),
  oo 25 (.bin .add (.t 24) (ci 1)),
  oo 1 (.mv (.t 25))])
 (.seq (rg [oo 26 (.mv (.t 0)),
  oo 27 (.mv (.t 5)),
  oo 28 (.iaddr 4 (.t 26) (.t 27)),
  oo 29 (.faddr 2 2 (.t 28)),
  oo 30 (.loadO (.sl 2) (.t 29)),
  oo 31 (.mv (.t 1)),
  oo 32 (.callM 2 95 (.t 30) [(.t 31)]),
  oo 1 (.mv (.t 32))])
 (rg [oo 33 (.mv (.t 0)),
  oo 34 (.mv (.t 5)),
  oo 35 (.iaddr 4 (.t 33) (.t 34)),
  oo 36 (.faddr 3 3 (.t 35)),
  oo 37 (.loadO (.sl 2) (.t 36)),
  oo 38 (.mv (.t 1)),
  oo 39 (.callM 2 232 (.t 37) [(.t 38)]),
  oo 1 (.mv (.t 39))])))))))
 (rg [oo 10 (.mv (.t 5)),
  oo 11 (.bin .add (.t 10) (ci 1)),
  oo 5 (.mv (.t 11))])))
def f43_r0 : AC :=
 (.seq (rg [oo 40 (.mv (.t 1)),
  oo 4 (.mv (.t 40))])
 .ret)
def f43_ac : AC :=
 (.seq (rg [oo 4 (.mv (ci 0))])
 (.seq (.seq (rg [oo 5 (.mv (ci 0))])
 (.block 0 (.loop ⟨[0, 1, 5], [], [(5000, true)]⟩ f43_b0)))
 f43_r0))
noncomputable def f43_l0 (E : Env) (x1 : U) (x5 : U) (b5000 : List U) : Option U := loopK (roundOf E ⟨[0, 1, 5], [], [(5000, true)]⟩ f43_b0 (blockK 0 (seqK (fun s => exec E f43_r0 s (finishM 4 [(4, none)])) (finishM 4 [(4, none)])))) ([.ref 5000 [] 4 none, .val x1, .val x5], [.vir (.own (.sl 4 b5000))])
theorem f43_l0_eq (E : Env) (x1 : U) (x5 : U) (b5000 : List U) : f43_l0 E x1 x5 b5000 =
 (U.bin .lss x5 (.int .i64 (b5000.length : Int))).bind fun t1 => U.asBool t1
 (U.asInt x5 fun n2 => if 4 = 4 ∧ 0 ≤ n2 ∧ n2 < (b5000.length : Int) then if storable (.val x1) = true ∧ x1.size = 1 then (b5000[(n2 : Int).toNat]?).bind fun e3 => U.asAgg e3 fun us4 => if 0 = sizes (us4.take 0) then (us4[0]?).bind fun e5 => if e5.size = 1 then if (x1 : U).flat = true then (U.bin .add x1 (.int .i64 1)).bind fun t6 => U.asInt x5 fun n7 => if 4 = 4 ∧ 0 ≤ n7 ∧ n7 < (((b5000.set (n2 : Int).toNat (.agg (us4.set 0 x1)))).length : Int) then if storable (.val t6) = true ∧ t6.size = 1 then ((b5000.set (n2 : Int).toNat (.agg (us4.set 0 x1)))[(n7 : Int).toNat]?).bind fun e8 => U.asAgg e8 fun us9 => if 1 = sizes (us9.take 1) then (us9[1]?).bind fun e10 => if e10.size = 1 then if (t6 : U).flat = true then (U.bin .add t6 (.int .i64 1)).bind fun t11 => U.asInt x5 fun n12 => if 4 = 4 ∧ 0 ≤ n12 ∧ n12 < ((((b5000.set (n2 : Int).toNat (.agg (us4.set 0 x1))).set (n7 : Int).toNat (.agg (us9.set 1 t6)))).length : Int) then (((b5000.set (n2 : Int).toNat (.agg (us4.set 0 x1))).set (n7 : Int).toNat (.agg (us9.set 1 t6)))[(n12 : Int).toNat]?).bind fun e13 => U.asAgg e13 fun us14 => if 2 = sizes (us14.take 2) then (us14[2]?).bind fun e15 => U.asSlK 2 e15 fun _ => (((b5000.set (n2 : Int).toNat (.agg (us4.set 0 x1))).set (n7 : Int).toNat (.agg (us9.set 1 t6)))[(n12 : Int).toNat]?).bind fun e16 => U.asAgg e16 fun us17 => if 2 = sizes (us17.take 2) then (us17[2]?).bind fun e18 => U.asSlK 2 e18 fun _ => U.asSlK 2 e18 fun us19 => (E 200095 (.agg [.tup [.sl 2 us19]] :: [t11])).bind fun t20 => U.asMut 2 t20 fun y21 ys22 => U.asFlat y21 fun y21 => (((b5000.set (n2 : Int).toNat (.agg (us4.set 0 x1))).set (n7 : Int).toNat (.agg (us9.set 1 t6)))[(n12 : Int).toNat]?).bind fun e23 => U.asAgg e23 fun us24 => if 2 = sizes (us24.take 2) then (us24[2]?).bind fun e25 => if e25.size = 1 then U.asInt x5 fun n26 => if 4 = 4 ∧ 0 ≤ n26 ∧ n26 < (((((b5000.set (n2 : Int).toNat (.agg (us4.set 0 x1))).set (n7 : Int).toNat (.agg (us9.set 1 t6))).set (n12 : Int).toNat (.agg (us24.set 2 (.sl 2 ys22))))).length : Int) then ((((b5000.set (n2 : Int).toNat (.agg (us4.set 0 x1))).set (n7 : Int).toNat (.agg (us9.set 1 t6))).set (n12 : Int).toNat (.agg (us24.set 2 (.sl 2 ys22))))[(n26 : Int).toNat]?).bind fun e27 => U.asAgg e27 fun us28 => if 3 = sizes (us28.take 3) then (us28[3]?).bind fun e29 => U.asSlK 2 e29 fun _ => ((((b5000.set (n2 : Int).toNat (.agg (us4.set 0 x1))).set (n7 : Int).toNat (.agg (us9.set 1 t6))).set (n12 : Int).toNat (.agg (us24.set 2 (.sl 2 ys22))))[(n26 : Int).toNat]?).bind fun e30 => U.asAgg e30 fun us31 => if 3 = sizes (us31.take 3) then (us31[3]?).bind fun e32 => U.asSlK 2 e32 fun _ => U.asSlK 2 e32 fun us33 => (E 200232 (.agg [.tup [.sl 2 us33]] :: [y21])).bind fun t34 => U.asMut 2 t34 fun y35 ys36 => U.asFlat y35 fun y35 => ((((b5000.set (n2 : Int).toNat (.agg (us4.set 0 x1))).set (n7 : Int).toNat (.agg (us9.set 1 t6))).set (n12 : Int).toNat (.agg (us24.set 2 (.sl 2 ys22))))[(n26 : Int).toNat]?).bind fun e37 => U.asAgg e37 fun us38 => if 3 = sizes (us38.take 3) then (us38[3]?).bind fun e39 => if e39.size = 1 then (U.bin .add x5 (.int .i64 1)).bind fun t40 => f43_l0 E y35 t40 ((((b5000.set (n2 : Int).toNat (.agg (us4.set 0 x1))).set (n7 : Int).toNat (.agg (us9.set 1 t6))).set (n12 : Int).toNat (.agg (us24.set 2 (.sl 2 ys22)))).set (n26 : Int).toNat (.agg (us38.set 3 (.sl 2 ys36)))) else none else none else none else none else none else none else none else none else none else none else none else none else none else none else none else none else none else none else none else none)
 (if (x1 : U).flat = true then some (.tup [x1, .sl 4 b5000]) else none) :=
 (loop_eq E _ _ _ _).trans (by kernel_rfl)
structure G_f43 (E : Env) : Prop where
  is : Is E 200287 2 f43_ac [(4, none)]
  c_f45 : G_f45 E
  c_f46 : G_f46 E
theorem f43_E {E : Env} (h : G_f43 E) (xs0 : List U) (a1 : U) : E 200287 (.agg [.tup [.sl 4 xs0]] :: [a1]) =
 f43_l0 E a1 (.int .i64 0) xs0 := (h.is _ rfl).trans ((runQ_M rfl).trans (by kernel_rfl))
def f44_b0 : AC :=
 (.seq (.seq (rg [oo 6 (.mv (.t 5)),
  oo 7 (.mv (.t 0)),
  oo 8 (.len false (.t 7)),
  oo 9 (.bin .lss (.t 6) (.t 8))])
 (.cond (.t 9) .skip (.exit 0)))
 (.seq (.block 1 (.seq (rg [oo 12 (.mv (.t 0)),
  oo 13 (.mv (.t 5)),
  oo 14 (.mv (.t 1)),
  oo 15 (.iaddr 1 (.t 12) (.t 13)),
  ⟨none, .store 1 (.t 15) (.t 14), none⟩])
 (rg [oo 16 (.mv (.t 1)),
  oo 17 (.bin .add (.t 16) (ci 1)),
  oo 1 (.mv (.t 17))])))
 (rg [oo 10 (.mv (.t 5)),
  oo 11 (.bin .add (.t 10) (ci 1)),
  oo 5 (.mv (.t 11))])))
def f44_r0 : AC :=
 (.seq (rg [oo 18 (.mv (.t 1)),
  oo 4 (.mv (.t 18))])
 .ret)
def f44_ac : AC :=
 (.seq (rg [oo 4 (.mv (ci 0))])
 (.seq (.seq (rg [oo 5 (.mv (ci 0))])
 (.block 0 (.loop ⟨[0, 1, 5], [], [(5000, true)]⟩ f44_b0)))
 f44_r0))
noncomputable def f44_l0 (E : Env) (x1 : U) (x5 : U) (b5000 : List U) : Option U := loopK (roundOf E ⟨[0, 1, 5], [], [(5000, true)]⟩ f44_b0 (blockK 0 (seqK (fun s => exec E f44_r0 s (finishM 1 [(4, none)])) (finishM 1 [(4, none)])))) ([.ref 5000 [] 1 none, .val x1, .val x5], [.vir (.own (.sl 1 b5000))])
theorem f44_l0_eq (E : Env) (x1 : U) (x5 : U) (b5000 : List U) : f44_l0 E x1 x5 b5000 =
 (U.bin .lss x5 (.int .i64 (b5000.length : Int))).bind fun t1 => U.asBool t1
 (U.asInt x5 fun n2 => if 1 = 1 ∧ 0 ≤ n2 ∧ n2 < (b5000.length : Int) then if storable (.val x1) = true ∧ x1.size = 1 then (b5000[(n2 : Int).toNat]?).bind fun e3 => if e3.size = 1 then if (x1 : U).flat = true then (U.bin .add x1 (.int .i64 1)).bind fun t4 => (U.bin .add x5 (.int .i64 1)).bind fun t5 => f44_l0 E t4 t5 (b5000.set (n2 : Int).toNat x1) else none else none else none else none)
 (if (x1 : U).flat = true then some (.tup [x1, .sl 1 b5000]) else none) :=
 (loop_eq E _ _ _ _).trans (by kernel_rfl)
structure G_f44 (E : Env) : Prop where
  is : Is E 200086 2 f44_ac [(4, none)]
theorem f44_E {E : Env} (h : G_f44 E) (xs0 : List U) (a1 : U) : E 200086 (.agg [.tup [.sl 1 xs0]] :: [a1]) =
 f44_l0 E a1 (.int .i64 0) xs0 := (h.is _ rfl).trans ((runQ_M rfl).trans (by kernel_rfl))
def f33_ac : AC :=
 (.seq (rg [oo 2 (.mv (.c (.bool false)))])
 (.seq (rg [oo 3 (.mv (ci 1048576))])
 (.seq (rg [oo 14 (.mv (.t 0)),
  oo 15 (.mv (.t 3)),
  oo 16 (.call false 49 [(.t 14), (.t 15)]),
  oo 3 (.mv (.t 16))])
 (.seq (.seq (rg [oo 17 (.mv (.t 3)),
  oo 18 (.bin .lss (.t 17) (ci 0))])
 (.cond (.t 18) (.seq (rg [oo 2 (.mv (.c (.bool true)))])
 .ret) .skip))
 (.seq (rg [oo 20 (.mv (.t 0)),
  oo 21 (.call false 45 [(.t 20)]),
  oo 22 (.call false 435 [(.t 21)]),
  oo 19 (.mv (.t 22)),
  oo 23 (.extract 0 (.t 19)),
  oo 24 (.extract 1 (.t 19)),
  oo 4 (.mv (.t 23)),
  oo 5 (.mv (.t 24))])
 (.seq (rg [oo 25 (.mv (.t 0)),
  oo 26 (.callF 26 false [(.sl 4)] 45 [(.t 25)]),
  oo 6 (.mv (.t 26))])
 (.seq (rg [oo 28 (.mv (.t 6)),
  oo 29 (.callF 29 true [(.sl 1), .bool] 434 [(.t 28)]),
  oo 27 (.mv (.t 29)),
  oo 30 (.extract 0 (.t 27)),
  oo 31 (.extract 1 (.t 27)),
  oo 7 (.mv (.t 30)),
  oo 8 (.mv (.t 31))])
 (.seq (.seq (rg [oo 32 (.mv (.t 7)),
  oo 33 (.mv (.t 4)),
  oo 34 (.call false 59 [(.t 32), (.t 33)]),
  oo 35 (.un .not (.t 34)),
  oo 36 (.mv (.t 35)),
  ⟨some 37, .mv (.t 8), some (36, false)⟩,
  ⟨some 38, .mv (.t 5), some (36, false)⟩,
  ⟨some 39, .eqv true 0 (.t 37) (.t 38), some (36, false)⟩,
  oo 40 (.pick (.t 36) (.c (.bool true)) (.t 39))])
 (.cond (.t 40) (.seq (rg [oo 2 (.mv (.c (.bool false)))])
 .ret) .skip))
 (.seq (.seq (rg [oo 41 (.mv (.t 6)),
  oo 42 (.mv (.t 0)),
  oo 43 (.call false 45 [(.t 42)]),
  oo 44 (.call false 46 [(.t 41), (.t 43)]),
  oo 45 (.un .not (.t 44))])
 (.cond (.t 45) (.seq (rg [oo 2 (.mv (.c (.bool false)))])
 .ret) .skip))
 (.seq (rg [oo 9 (.mv (ci 1))])
 (.seq (rg [oo 46 (.mv (.t 6)),
  oo 47 (.mv (.t 9)),
  oo 48 (.callM 4 287 (.t 46) [(.t 47)]),
  oo 9 (.mv (.t 48))])
 (.seq (.seq (rg [oo 49 (.mv (.t 9)),
  oo 50 (.bin .lss (.t 49) (ci 0)),
  oo 51 (.mv (.t 50)),
  ⟨some 52, .mv (.t 7), some (51, false)⟩,
  ⟨some 53, .mv (.t 4), some (51, false)⟩,
  ⟨some 54, .call false 59 [(.t 52), (.t 53)], some (51, false)⟩,
  ⟨some 55, .un .not (.t 54), some (51, false)⟩,
  oo 56 (.pick (.t 51) (.c (.bool true)) (.t 55)),
  oo 57 (.mv (.t 56)),
  ⟨some 58, .mv (.t 8), some (57, false)⟩,
  ⟨some 59, .mv (.t 5), some (57, false)⟩,
  ⟨some 60, .eqv true 0 (.t 58) (.t 59), some (57, false)⟩,
  oo 61 (.pick (.t 57) (.c (.bool true)) (.t 60))])
 (.cond (.t 61) (.seq (rg [oo 2 (.mv (.c (.bool false)))])
 .ret) .skip))
 (.seq (rg [oo 10 (.mv (ci 1))])
 (.seq (rg [oo 62 (.mv (.t 7)),
  oo 63 (.mv (.t 10)),
  oo 64 (.callM 1 86 (.t 62) [(.t 63)]),
  oo 10 (.mv (.t 64))])
 (.seq (rg [oo 11 (.mv (ci 1))])
 (.seq (rg [oo 65 (.mv (.t 7)),
  oo 66 (.mv (.t 11)),
  oo 67 (.call false 90 [(.t 65), (.t 66)]),
  oo 11 (.mv (.t 67))])
 (.seq (.seq (rg [oo 68 (.mv (.t 11)),
  oo 69 (.bin .lss (.t 68) (ci 0))])
 (.cond (.t 69) (.seq (rg [oo 2 (.mv (.c (.bool false)))])
 .ret) .skip))
 (.seq (.seq (rg [oo 70 (.mv (.t 11)),
  oo 71 (.mv (.t 10)),
  oo 72 (.bin .neq (.t 70) (.t 71))])
 (.cond (.t 72) (.seq (rg [oo 2 (.mv (.c (.bool false)))])
 .ret) .skip))
 (.seq (rg [oo 74 (.mv (.t 0)),
  oo 75 (.call false 45 [(.t 74)]),
  oo 76 (.call false 434 [(.t 75)]),
  oo 73 (.mv (.t 76)),
  oo 77 (.extract 0 (.t 73)),
  oo 78 (.extract 1 (.t 73)),
  oo 12 (.mv (.t 77)),
  oo 13 (.mv (.t 78))])
 (.seq (.seq (rg [oo 79 (.mv (.t 12)),
  oo 80 (.mv (.t 4)),
  oo 81 (.call false 59 [(.t 79), (.t 80)]),
  oo 82 (.un .not (.t 81)),
  oo 83 (.mv (.t 82)),
  ⟨some 84, .mv (.t 13), some (83, false)⟩,
  ⟨some 85, .mv (.t 5), some (83, false)⟩,
  ⟨some 86, .eqv true 0 (.t 84) (.t 85), some (83, false)⟩,
  oo 87 (.pick (.t 83) (.c (.bool true)) (.t 86))])
 (.cond (.t 87) (.seq (rg [oo 2 (.mv (.c (.bool false)))])
 .ret) .skip))
 (.seq (rg [oo 11 (.mv (ci 1))])
 (.seq (rg [oo 88 (.mv (.t 7)),
  oo 89 (.mv (.t 11)),
  oo 90 (.call false 90 [(.t 88), (.t 89)]),
  oo 11 (.mv (.t 90))])
 (.seq (.seq (rg [oo 91 (.mv (.t 11)),
  oo 92 (.bin .lss (.t 91) (ci 0))])
 (.cond (.t 92) (.seq (rg [oo 2 (.mv (.c (.bool false)))])
 .ret) .skip))
 (.seq (.seq (rg [oo 93 (.mv (.t 11)),
  oo 94 (.mv (.t 10)),
  oo 95 (.bin .neq (.t 93) (.t 94))])
 (.cond (.t 95) (.seq (rg [oo 2 (.mv (.c (.bool false)))])
 .ret) .skip))
 (.seq (rg [oo 2 (.mv (.c (.bool true)))])
 .ret)))))))))))))))))))))))))
structure G_f33 (E : Env) : Prop where
  is : Is E 433 1 f33_ac [(2, none)]
  c_f48 : G_f48 E
  c_f52 : G_f52 E
  c_f35 : G_f35 E
  c_f36 : G_f36 E
  c_f77 : G_f77 E
  c_f13 : G_f13 E
  c_f41 : G_f41 E
  c_f53 : G_f53 E
  c_f15 : G_f15 E
  c_f43 : G_f43 E
  c_f44 : G_f44 E
theorem f33_E {E : Env} (h : G_f33 E) (a0 : U) : E 433 [a0] =
 (E 49 [a0, (.int .i64 1048576)]).bind fun t1 => (U.bin .lss t1 (.int .i64 0)).bind fun t2 => U.asBool t2
 (some (.bool true))
 ((E 45 [a0]).bind fun t3 => (E 435 [t3]).bind fun t4 => U.part 0 t4 fun p5 => U.part 1 t4 fun p6 => (E 100045 [a0]).bind fun t7 => U.noTup t7 fun x8 => U.asSlK 4 x8 fun us9 => (E 100434 [(.sl 4 us9)]).bind fun t10 => U.asTup t10 fun us11 => (match us11 with
 | u12 :: us13 => (U.asSlK 1 u12 fun us14 => (match us13 with
 | u15 :: us16 => (U.asB u15 fun b17 => (match us16 with
 | [] => ((E 59 [(.sl 1 us14), p5]).bind fun t18 => U.asFlat t18 fun t19 => (U.un .not t19).bind fun t20 => U.asBool t20
 (some (.bool false))
 ((U.eqv 0 (.bool b17) p6).bind fun q21 => U.asBool (.bool (!q21))
 (some (.bool false))
 ((E 45 [a0]).bind fun t22 => (E 46 [(.sl 4 us9), t22]).bind fun t23 => U.asFlat t23 fun t24 => (U.un .not t24).bind fun t25 => U.asBool t25
 (some (.bool false))
 ((E 200287 (.agg [.tup [.sl 4 us9]] :: [(.int .i64 1)])).bind fun t26 => U.asMut 4 t26 fun y27 ys28 => U.asFlat y27 fun y27 => (U.bin .lss y27 (.int .i64 0)).bind fun t29 => U.asBool t29
 (some (.bool false))
 ((E 59 [(.sl 1 us14), p5]).bind fun t30 => U.asFlat t30 fun t31 => (U.un .not t31).bind fun t32 => U.asBool t32
 (some (.bool false))
 ((U.eqv 0 (.bool b17) p6).bind fun q33 => U.asBool (.bool (!q33))
 (some (.bool false))
 ((E 200086 (.agg [.tup [.sl 1 us14]] :: [(.int .i64 1)])).bind fun t34 => U.asMut 1 t34 fun y35 ys36 => U.asFlat y35 fun y35 => (E 90 [(.sl 1 ys36), (.int .i64 1)]).bind fun t37 => U.asFlat t37 fun t38 => (U.bin .lss t38 (.int .i64 0)).bind fun t39 => U.asBool t39
 (some (.bool false))
 ((U.bin .neq t38 y35).bind fun t40 => U.asBool t40
 (some (.bool false))
 ((E 45 [a0]).bind fun t41 => (E 434 [t41]).bind fun t42 => U.part 0 t42 fun p43 => U.part 1 t42 fun p44 => (E 59 [p43, p5]).bind fun t45 => (U.un .not t45).bind fun t46 => U.asBool t46
 (some (.bool false))
 ((U.eqv 0 p44 p6).bind fun q47 => U.asBool (.bool (!q47))
 (some (.bool false))
 ((E 90 [(.sl 1 ys36), (.int .i64 1)]).bind fun t48 => U.asFlat t48 fun t49 => (U.bin .lss t49 (.int .i64 0)).bind fun t50 => U.asBool t50
 (some (.bool false))
 ((U.bin .neq t49 y35).bind fun t51 => U.asBool t51
 (some (.bool false))
 (some (.bool true))))))))))))))
 | _ => none))
 | [] => none))
 | [] => none)) := (h.is _ rfl).trans ((runQ_V rfl).trans (by kernel_rfl))
end Go.Proofs.Ytlmnkhlkccipfaa.Am
