import Derived.KernelRfl
import Derived.Test.YtlgblpngiamhaaaAmW
import Derived.Test.YtlgblpngiamhaaaAmBd
import Derived.Test.YtlgblpngiamhaaaAmCl
import Derived.Test.YtlgblpngiamhaaaAmX
import Derived.Test.YtlgblpngiamhaaaAmSs
namespace Go.Proofs.Ytlgblpngiamhaaa.Am
open Go
set_option linter.unusedVariables false
set_option maxRecDepth 100000
def f63_ac : AC :=
 (.seq (rg [oo 4 (.mv (ci 0))])
 (.seq (rg [oo 5 (.mv (.t 1)),
  oo 6 (.mv (.t 0)),
  oo 7 (.len false (.t 6)),
  oo 8 (.bin .sub (.t 5) (.t 7)),
  oo 1 (.mv (.t 8))])
 (.seq (.seq (rg [oo 9 (.mv (.t 1)),
  oo 10 (.bin .lss (.t 9) (ci 0))])
 (.cond (.t 10) (.seq (rg [oo 4 (.mv (ci (-1)))])
 .ret) .skip))
 (.seq (rg [oo 11 (.mv (.t 1)),
  oo 4 (.mv (.t 11))])
 .ret))))
structure G_f63 (E : Env) : Prop where
  is : Is E 24 2 f63_ac [(4, none)]
theorem f63_E {E : Env} (h : G_f63 E) (a0 a1 : U) : E 24 [a0, a1] =
 (U.lenOf false a0).bind fun n1 => (U.bin .sub a1 (.int .i64 (n1 : Int))).bind fun t2 => (U.bin .lss t2 (.int .i64 0)).bind fun t3 => U.asBool t3
 (some (.int .i64 (-1)))
 (some t2) := (h.is _ rfl).trans ((runQ_V rfl).trans (by kernel_rfl))
def f64_ac : AC :=
 (.seq (rg [oo 4 (.mv (ci 0))])
 (.seq (rg [oo 5 (.mv (.t 1)),
  oo 6 (.mv (.t 0)),
  oo 7 (.len false (.t 6)),
  oo 8 (.bin .sub (.t 5) (.t 7)),
  oo 1 (.mv (.t 8))])
 (.seq (.seq (rg [oo 9 (.mv (.t 1)),
  oo 10 (.bin .lss (.t 9) (ci 0))])
 (.cond (.t 10) (.seq (rg [oo 4 (.mv (ci (-1)))])
 .ret) .skip))
 (.seq (rg [oo 11 (.mv (.t 1)),
  oo 4 (.mv (.t 11))])
 .ret))))
structure G_f64 (E : Env) : Prop where
  is : Is E 23 2 f64_ac [(4, none)]
theorem f64_E {E : Env} (h : G_f64 E) (a0 a1 : U) : E 23 [a0, a1] =
 (U.lenOf false a0).bind fun n1 => (U.bin .sub a1 (.int .i64 (n1 : Int))).bind fun t2 => (U.bin .lss t2 (.int .i64 0)).bind fun t3 => U.asBool t3
 (some (.int .i64 (-1)))
 (some t2) := (h.is _ rfl).trans ((runQ_V rfl).trans (by kernel_rfl))
def f61_ac : AC :=
 (.seq (rg [oo 2 (.box false 2 (.t 0)),
  oo 4 (.mv (ci 0))])
 (.seq (rg [oo 5 (.faddr 2 2 (.t 2)),
  oo 6 (.load false 1 (.t 5)),
  oo 7 (.mv (.t 1)),
  oo 8 (.call false 24 [(.t 6), (.t 7)]),
  oo 1 (.mv (.t 8))])
 (.seq (.seq (rg [oo 9 (.mv (.t 1)),
  oo 10 (.bin .lss (.t 9) (ci 0))])
 (.cond (.t 10) (.seq (rg [oo 4 (.mv (ci (-1)))])
 .ret) .skip))
 (.seq (rg [oo 11 (.faddr 3 3 (.t 2)),
  oo 12 (.load false 1 (.t 11)),
  oo 13 (.mv (.t 1)),
  oo 14 (.call false 23 [(.t 12), (.t 13)]),
  oo 1 (.mv (.t 14))])
 (.seq (.seq (rg [oo 15 (.mv (.t 1)),
  oo 16 (.bin .lss (.t 15) (ci 0))])
 (.cond (.t 16) (.seq (rg [oo 4 (.mv (ci (-1)))])
 .ret) .skip))
 (.seq (rg [oo 17 (.mv (.t 1)),
  oo 4 (.mv (.t 17))])
 .ret))))))
structure G_f61 (E : Env) : Prop where
  is : Is E 50 2 f61_ac [(4, none)]
  c_f63 : G_f63 E
  c_f64 : G_f64 E
theorem f61_E {E : Env} (h : G_f61 E) (a0 a1 : U) : E 50 [a0, a1] =
 U.noTup a0 fun x1 => U.asAgg x1 fun us2 => if 2 = sizes (us2.take 2) then (us2[2]?).bind fun e3 => U.asVar false 1 e3 fun e4 => (E 24 [e4, a1]).bind fun t5 => (U.bin .lss t5 (.int .i64 0)).bind fun t6 => U.asBool t6
 (some (.int .i64 (-1)))
 (U.asAgg x1 fun us7 => if 3 = sizes (us7.take 3) then (us7[3]?).bind fun e8 => U.asVar false 1 e8 fun e9 => (E 23 [e9, t5]).bind fun t10 => (U.bin .lss t10 (.int .i64 0)).bind fun t11 => U.asBool t11
 (some (.int .i64 (-1)))
 (some t10) else none) else none := (h.is _ rfl).trans ((runQ_V rfl).trans (by kernel_rfl))
def f62_b0 : AC :=
 (.seq (.seq (rg [oo 12 (.mv (.t 5)),
  oo 13 (.mv (.t 0)),
  oo 14 (.len false (.t 13)),
  oo 15 (.bin .lss (.t 12) (.t 14))])
 (.cond (.t 15) .skip (.exit 0)))
 (.seq (.block 1 (.seq (rg [oo 18 (.mv (.t 0)),
  oo 19 (.mv (.t 5)),
  oo 20 (.iaddr 4 (.t 18) (.t 19)),
  oo 21 (.load true 4 (.t 20)),
  oo 22 (.mv (.t 1)),
  oo 23 (.call false 50 [(.t 21), (.t 22)]),
  oo 1 (.mv (.t 23))])
 (.seq (rg [oo 24 (.mv (.t 1)),
  oo 25 (.bin .lss (.t 24) (ci 0))])
 (.cond (.t 25) (.seq (rg [oo 4 (.mv (ci (-1)))])
 .ret) .skip))))
 (rg [oo 16 (.mv (.t 5)),
  oo 17 (.bin .add (.t 16) (ci 1)),
  oo 5 (.mv (.t 17))])))
def f62_r0 : AC :=
 (.seq (rg [oo 26 (.mv (.t 1)),
  oo 4 (.mv (.t 26))])
 .ret)
def f62_ac : AC :=
 (.seq (rg [oo 4 (.mv (ci 0))])
 (.seq (rg [oo 6 (.mv (.t 1)),
  oo 7 (.mv (.t 0)),
  oo 8 (.len false (.t 7)),
  oo 9 (.bin .sub (.t 6) (.t 8)),
  oo 1 (.mv (.t 9))])
 (.seq (.seq (rg [oo 10 (.mv (.t 1)),
  oo 11 (.bin .lss (.t 10) (ci 0))])
 (.cond (.t 11) (.seq (rg [oo 4 (.mv (ci (-1)))])
 .ret) .skip))
 (.seq (.seq (rg [oo 5 (.mv (ci 0))])
 (.block 0 (.loop ⟨[0, 1, 5], [], []⟩ f62_b0)))
 f62_r0))))
noncomputable def f62_l0 (E : Env) (x0 : U) (x1 : U) (x5 : U) : Option U := loopK (roundOf E ⟨[0, 1, 5], [], []⟩ f62_b0 (blockK 0 (seqK (fun s => exec E f62_r0 s (finish [(4, none)])) (finish [(4, none)])))) ([.val x0, .val x1, .val x5], [])
theorem f62_l0_eq (E : Env) (x0 : U) (x1 : U) (x5 : U) : f62_l0 E x0 x1 x5 =
 (U.lenOf false x0).bind fun n4 => (U.bin .lss x5 (.int .i64 (n4 : Int))).bind fun t5 => U.asBool t5
 (U.asInt x5 fun n6 => U.elemAt 4 x0 n6 fun e7 => U.asVar true 4 e7 fun e8 => (E 50 [e8, x1]).bind fun t9 => (U.bin .lss t9 (.int .i64 0)).bind fun t10 => U.asBool t10
 (some (.int .i64 (-1)))
 ((U.bin .add x5 (.int .i64 1)).bind fun t11 => f62_l0 E x0 t9 t11))
 (some x1) := (loop_eq E _ _ _ _).trans (by kernel_rfl)
structure G_f62 (E : Env) : Prop where
  is : Is E 49 2 f62_ac [(4, none)]
  c_f61 : G_f61 E
theorem f62_E {E : Env} (h : G_f62 E) (a0 a1 : U) : E 49 [a0, a1] =
 (U.lenOf false a0).bind fun n1 => (U.bin .sub a1 (.int .i64 (n1 : Int))).bind fun t2 => (U.bin .lss t2 (.int .i64 0)).bind fun t3 => U.asBool t3
 (some (.int .i64 (-1)))
 (f62_l0 E a0 t2 (.int .i64 0)) := (h.is _ rfl).trans ((runQ_V rfl).trans (by kernel_rfl))
def f69_ac : AC :=
 (.seq (rg [oo 1 (.box false 1 (.t 0)),
  oo 2 (.alloc 2 (.agg [(.int .i64 0), (.int .i64 0)]))])
 (.seq (rg [oo 3 (.alloc 3 (.agg [(.int .i64 0), (.int .i64 0)]))])
 (.seq (rg [oo 4 (.faddr 0 0 (.t 1)),
  oo 5 (.load false 1 (.t 4)),
  oo 6 (.faddr 0 0 (.t 3)),
  ⟨none, .store 1 (.t 6) (.t 5), none⟩])
 (.seq (rg [oo 7 (.faddr 1 1 (.t 1)),
  oo 8 (.load false 1 (.t 7)),
  oo 9 (.faddr 1 1 (.t 3)),
  ⟨none, .store 1 (.t 9) (.t 8), none⟩])
 (.seq (rg [oo 10 (.load true 2 (.t 3)),
  ⟨none, .store 2 (.t 2) (.t 10), none⟩])
 .ret)))))
structure G_f69 (E : Env) : Prop where
  is : Is E 29 1 f69_ac [(2, some (true, 2))]
theorem f69_E {E : Env} (h : G_f69 E) (a0 : U) : E 29 [a0] =
 U.noTup a0 fun x1 => U.asAgg x1 fun us2 => if 0 = sizes (us2.take 0) then (us2[0]?).bind fun e3 => U.asVar false 1 e3 fun e4 => if storable (.val e4) = true ∧ e4.size = 1 then U.asAgg x1 fun us5 => if 1 = sizes (us5.take 1) then (us5[1]?).bind fun e6 => U.asVar false 1 e6 fun e7 => if storable (.val e7) = true ∧ e7.size = 1 then if 1 = sizes [e4] then U.asVar true 2 (.agg [e4, e7]) fun e8 => if storable (.val e8) = true ∧ e8.size = 2 then U.asVar true 2 e8 fun e9 => some e9 else none else none else none else none else none else none := (h.is _ rfl).trans ((runQ_V rfl).trans (by kernel_rfl))
def f70_b0 : AC :=
 (.seq (.seq (rg [oo 8 (.mv (.t 4)),
  oo 9 (.mv (.t 0)),
  oo 10 (.len false (.t 9)),
  oo 11 (.bin .lss (.t 8) (.t 10))])
 (.cond (.t 11) .skip (.exit 0)))
 (.seq (.block 1 (rg [oo 14 (.mv (.t 3)),
  oo 15 (.mv (.t 4)),
  oo 16 (.mv (.t 0)),
  oo 17 (.mv (.t 4)),
  oo 18 (.iaddr 2 (.t 16) (.t 17)),
  oo 19 (.load true 2 (.t 18)),
  oo 20 (.call false 29 [(.t 19)]),
  oo 21 (.iaddr 2 (.t 14) (.t 15)),
  ⟨none, .store 2 (.t 21) (.t 20), none⟩]))
 (rg [oo 12 (.mv (.t 4)),
  oo 13 (.bin .add (.t 12) (ci 1)),
  oo 4 (.mv (.t 13))])))
def f70_r0 : AC :=
 (.seq (rg [oo 22 (.mv (.t 3)),
  oo 2 (.mv (.t 22))])
 .ret)
def f70_ac : AC :=
 (.seq (rg [oo 2 (.mv (.c (.nsl 2)))])
 (.seq (rg [oo 5 (.mv (.t 0)),
  oo 6 (.len false (.t 5)),
  oo 7 (.mkslice 7 2 16 (.agg [(.int .i64 0), (.int .i64 0)]) (.t 6) (.t 6)),
  oo 3 (.mv (.t 7))])
 (.seq (.seq (rg [oo 4 (.mv (ci 0))])
 (.block 0 (.loop ⟨[0, 4], [(3, 2, false)], []⟩ f70_b0)))
 f70_r0)))
noncomputable def f70_l0 (E : Env) (x0 : U) (x4 : U) (c3 : List U) : Option U := loopK (roundOf E ⟨[0, 4], [(3, 2, false)], []⟩ f70_b0 (blockK 0 (seqK (fun s => exec E f70_r0 s (finish [(2, none)])) (finish [(2, none)])))) ([.val x0, .val x4], [.vir (.asl 2 c3)])
theorem f70_l0_eq (E : Env) (x0 : U) (x4 : U) (c3 : List U) : f70_l0 E x0 x4 c3 =
 (U.lenOf false x0).bind fun n2 => (U.bin .lss x4 (.int .i64 (n2 : Int))).bind fun t3 => U.asBool t3
 (U.asInt x4 fun n4 => U.elemAt 2 x0 n4 fun e5 => U.asVar true 2 e5 fun e6 => (E 29 [e6]).bind fun t7 => U.asInt x4 fun n8 => if 2 = 2 ∧ 0 ≤ n8 ∧ n8 < ((c3).length : Int) then if storable (.val t7) = true ∧ t7.size = 2 then (c3[(n8 : Int).toNat]?).bind fun e9 => if e9.size = 2 then (U.bin .add x4 (.int .i64 1)).bind fun t10 => f70_l0 E x0 t10 (c3.set (n8 : Int).toNat t7) else none else none else none)
 (some (.sl 2 c3)) := (loop_eq E _ _ _ _).trans (by kernel_rfl)
structure G_f70 (E : Env) : Prop where
  is : Is E 28 1 f70_ac [(2, none)]
  c_f69 : G_f69 E
theorem f70_E {E : Env} (h : G_f70 E) (a0 : U) : E 28 [a0] =
 (U.lenOf false a0).bind fun n1 => if 0 ≤ (n1 : Int) ∧ (n1 : Int) ≤ (n1 : Int) ∧ (n1 : Int) * 16 ≤ 140737488355328 ∧ ((.agg [(.int .i64 0), (.int .i64 0)]) : U).size = 2 then f70_l0 E a0 (.int .i64 0) (List.replicate ((n1 : Int) : Int).toNat (.agg [(.int .i64 0), (.int .i64 0)])) else none := (h.is _ rfl).trans ((runQ_V rfl).trans (by kernel_rfl))
def f72_ac : AC :=
 (.seq (rg [oo 1 (.box false 1 (.t 0)),
  oo 2 (.alloc 2 (.agg [(.int .i64 0), (.int .i64 0)]))])
 (.seq (rg [oo 3 (.alloc 3 (.agg [(.int .i64 0), (.int .i64 0)]))])
 (.seq (rg [oo 4 (.faddr 0 0 (.t 1)),
  oo 5 (.load false 1 (.t 4)),
  oo 6 (.faddr 0 0 (.t 3)),
  ⟨none, .store 1 (.t 6) (.t 5), none⟩])
 (.seq (rg [oo 7 (.faddr 1 1 (.t 1)),
  oo 8 (.load false 1 (.t 7)),
  oo 9 (.faddr 1 1 (.t 3)),
  ⟨none, .store 1 (.t 9) (.t 8), none⟩])
 (.seq (rg [oo 10 (.load true 2 (.t 3)),
  ⟨none, .store 2 (.t 2) (.t 10), none⟩])
 .ret)))))
structure G_f72 (E : Env) : Prop where
  is : Is E 30 1 f72_ac [(2, some (true, 2))]
theorem f72_E {E : Env} (h : G_f72 E) (a0 : U) : E 30 [a0] =
 U.noTup a0 fun x1 => U.asAgg x1 fun us2 => if 0 = sizes (us2.take 0) then (us2[0]?).bind fun e3 => U.asVar false 1 e3 fun e4 => if storable (.val e4) = true ∧ e4.size = 1 then U.asAgg x1 fun us5 => if 1 = sizes (us5.take 1) then (us5[1]?).bind fun e6 => U.asVar false 1 e6 fun e7 => if storable (.val e7) = true ∧ e7.size = 1 then if 1 = sizes [e4] then U.asVar true 2 (.agg [e4, e7]) fun e8 => if storable (.val e8) = true ∧ e8.size = 2 then U.asVar true 2 e8 fun e9 => some e9 else none else none else none else none else none else none := (h.is _ rfl).trans ((runQ_V rfl).trans (by kernel_rfl))
def f73_b0 : AC :=
 (.seq (.seq (rg [oo 8 (.mv (.t 4)),
  oo 9 (.mv (.t 0)),
  oo 10 (.len false (.t 9)),
  oo 11 (.bin .lss (.t 8) (.t 10))])
 (.cond (.t 11) .skip (.exit 0)))
 (.seq (.block 1 (rg [oo 14 (.mv (.t 3)),
  oo 15 (.mv (.t 4)),
  oo 16 (.mv (.t 0)),
  oo 17 (.mv (.t 4)),
  oo 18 (.iaddr 2 (.t 16) (.t 17)),
  oo 19 (.load true 2 (.t 18)),
  oo 20 (.call false 30 [(.t 19)]),
  oo 21 (.iaddr 2 (.t 14) (.t 15)),
  ⟨none, .store 2 (.t 21) (.t 20), none⟩]))
 (rg [oo 12 (.mv (.t 4)),
  oo 13 (.bin .add (.t 12) (ci 1)),
  oo 4 (.mv (.t 13))])))
def f73_r0 : AC :=
 (.seq (rg [oo 22 (.mv (.t 3)),
  oo 2 (.mv (.t 22))])
 .ret)
def f73_ac : AC :=
 (.seq (rg [oo 2 (.mv (.c (.nsl 2)))])
 (.seq (rg [oo 5 (.mv (.t 0)),
  oo 6 (.len false (.t 5)),
  oo 7 (.mkslice 7 2 16 (.agg [(.int .i64 0), (.int .i64 0)]) (.t 6) (.t 6)),
  oo 3 (.mv (.t 7))])
 (.seq (.seq (rg [oo 4 (.mv (ci 0))])
 (.block 0 (.loop ⟨[0, 4], [(3, 2, false)], []⟩ f73_b0)))
 f73_r0)))
noncomputable def f73_l0 (E : Env) (x0 : U) (x4 : U) (c3 : List U) : Option U := loopK (roundOf E ⟨[0, 4], [(3, 2, false)], []⟩ f73_b0 (blockK 0 (seqK (fun s => exec E f73_r0 s (finish [(2, none)])) (finish [(2, none)])))) ([.val x0, .val x4], [.vir (.asl 2 c3)])
theorem f73_l0_eq (E : Env) (x0 : U) (x4 : U) (c3 : List U) : f73_l0 E x0 x4 c3 =
 (U.lenOf false x0).bind fun n2 => (U.bin .lss x4 (.int .i64 (n2 : Int))).bind fun t3 => U.asBool t3
 (U.asInt x4 fun n4 => U.elemAt 2 x0 n4 fun e5 => U.asVar true 2 e5 fun e6 => (E 30 [e6]).bind fun t7 => U.asInt x4 fun n8 => if 2 = 2 ∧ 0 ≤ n8 ∧ n8 < ((c3).length : Int) then if storable (.val t7) = true ∧ t7.size = 2 then (c3[(n8 : Int).toNat]?).bind fun e9 => if e9.size = 2 then (U.bin .add x4 (.int .i64 1)).bind fun t10 => f73_l0 E x0 t10 (c3.set (n8 : Int).toNat t7) else none else none else none)
 (some (.sl 2 c3)) := (loop_eq E _ _ _ _).trans (by kernel_rfl)
structure G_f73 (E : Env) : Prop where
  is : Is E 27 1 f73_ac [(2, none)]
  c_f72 : G_f72 E
theorem f73_E {E : Env} (h : G_f73 E) (a0 : U) : E 27 [a0] =
 (U.lenOf false a0).bind fun n1 => if 0 ≤ (n1 : Int) ∧ (n1 : Int) ≤ (n1 : Int) ∧ (n1 : Int) * 16 ≤ 140737488355328 ∧ ((.agg [(.int .i64 0), (.int .i64 0)]) : U).size = 2 then f73_l0 E a0 (.int .i64 0) (List.replicate ((n1 : Int) : Int).toNat (.agg [(.int .i64 0), (.int .i64 0)])) else none := (h.is _ rfl).trans ((runQ_V rfl).trans (by kernel_rfl))
def f65_ac : AC :=
 (.seq (rg [oo 1 (.box false 1 (.t 0)),
  oo 2 (.alloc 2 (.agg [(.int .i64 0), (.int .i64 0), (.nsl 2), (.nsl 2)]))])
 (.seq (rg [oo 3 (.alloc 3 (.agg [(.int .i64 0), (.int .i64 0), (.nsl 2), (.nsl 2)]))])
 (.seq (rg [oo 4 (.faddr 0 0 (.t 1)),
  oo 5 (.load false 1 (.t 4)),
  oo 6 (.faddr 0 0 (.t 3)),
  ⟨none, .store 1 (.t 6) (.t 5), none⟩])
 (.seq (rg [oo 7 (.faddr 1 1 (.t 1)),
  oo 8 (.load false 1 (.t 7)),
  oo 9 (.faddr 1 1 (.t 3)),
  ⟨none, .store 1 (.t 9) (.t 8), none⟩])
 (.seq (rg [oo 10 (.faddr 2 2 (.t 1)),
  oo 11 (.load false 1 (.t 10)),
  oo 12 (.call false 28 [(.t 11)]),
  oo 13 (.faddr 2 2 (.t 3)),
  ⟨none, .store 1 (.t 13) (.t 12), none⟩])
 (.seq (rg [oo 14 (.faddr 3 3 (.t 1)),
  oo 15 (.load false 1 (.t 14)),
  oo 16 (.call false 27 [(.t 15)]),
  oo 17 (.faddr 3 3 (.t 3)),
  ⟨none, .store 1 (.t 17) (.t 16), none⟩])
 (.seq (rg [oo 18 (.load true 4 (.t 3)),
  ⟨none, .store 4 (.t 2) (.t 18), none⟩])
 .ret)))))))
structure G_f65 (E : Env) : Prop where
  is : Is E 51 1 f65_ac [(2, some (true, 4))]
  c_f70 : G_f70 E
  c_f73 : G_f73 E
theorem f65_E {E : Env} (h : G_f65 E) (a0 : U) : E 51 [a0] =
 U.noTup a0 fun x1 => U.asAgg x1 fun us2 => if 0 = sizes (us2.take 0) then (us2[0]?).bind fun e3 => U.asVar false 1 e3 fun e4 => if storable (.val e4) = true ∧ e4.size = 1 then U.asAgg x1 fun us5 => if 1 = sizes (us5.take 1) then (us5[1]?).bind fun e6 => U.asVar false 1 e6 fun e7 => if storable (.val e7) = true ∧ e7.size = 1 then if 1 = sizes [e4] then U.asAgg x1 fun us8 => if 2 = sizes (us8.take 2) then (us8[2]?).bind fun e9 => U.asVar false 1 e9 fun e10 => (E 28 [e10]).bind fun t11 => if storable (.val t11) = true ∧ t11.size = 1 then if 2 = sizes [e4, e7] then U.asAgg x1 fun us12 => if 3 = sizes (us12.take 3) then (us12[3]?).bind fun e13 => U.asVar false 1 e13 fun e14 => (E 27 [e14]).bind fun t15 => if storable (.val t15) = true ∧ t15.size = 1 then if 3 = sizes [e4, e7, t11] then U.asVar true 4 (.agg [e4, e7, t11, t15]) fun e16 => if storable (.val e16) = true ∧ e16.size = 4 then U.asVar true 4 e16 fun e17 => some e17 else none else none else none else none else none else none else none else none else none else none else none else none := (h.is _ rfl).trans ((runQ_V rfl).trans (by kernel_rfl))
def f66_b0 : AC :=
 (.seq (.seq (rg [oo 8 (.mv (.t 4)),
  oo 9 (.mv (.t 0)),
  oo 10 (.len false (.t 9)),
  oo 11 (.bin .lss (.t 8) (.t 10))])
 (.cond (.t 11) .skip (.exit 0)))
 (.seq (.block 1 (rg [oo 14 (.mv (.t 3)),
  oo 15 (.mv (.t 4)),
  oo 16 (.mv (.t 0)),
  oo 17 (.mv (.t 4)),
  oo 18 (.iaddr 4 (.t 16) (.t 17)),
  oo 19 (.load true 4 (.t 18)),
  oo 20 (.call false 51 [(.t 19)]),
  oo 21 (.iaddr 4 (.t 14) (.t 15)),
  ⟨none, .store 4 (.t 21) (.t 20), none⟩]))
 (rg [oo 12 (.mv (.t 4)),
  oo 13 (.bin .add (.t 12) (ci 1)),
  oo 4 (.mv (.t 13))])))
def f66_r0 : AC :=
 (.seq (rg [oo 22 (.mv (.t 3)),
  oo 2 (.mv (.t 22))])
 .ret)
def f66_ac : AC :=
 (.seq (rg [oo 2 (.mv (.c (.nsl 4)))])
 (.seq (rg [oo 5 (.mv (.t 0)),
  oo 6 (.len false (.t 5)),
  oo 7 (.mkslice 7 4 64 (.agg [(.int .i64 0), (.int .i64 0), (.nsl 2), (.nsl 2)]) (.t 6) (.t 6)),
  oo 3 (.mv (.t 7))])
 (.seq (.seq (rg [oo 4 (.mv (ci 0))])
 (.block 0 (.loop ⟨[0, 4], [(3, 4, false)], []⟩ f66_b0)))
 f66_r0)))
noncomputable def f66_l0 (E : Env) (x0 : U) (x4 : U) (c3 : List U) : Option U := loopK (roundOf E ⟨[0, 4], [(3, 4, false)], []⟩ f66_b0 (blockK 0 (seqK (fun s => exec E f66_r0 s (finish [(2, none)])) (finish [(2, none)])))) ([.val x0, .val x4], [.vir (.asl 4 c3)])
theorem f66_l0_eq (E : Env) (x0 : U) (x4 : U) (c3 : List U) : f66_l0 E x0 x4 c3 =
 (U.lenOf false x0).bind fun n2 => (U.bin .lss x4 (.int .i64 (n2 : Int))).bind fun t3 => U.asBool t3
 (U.asInt x4 fun n4 => U.elemAt 4 x0 n4 fun e5 => U.asVar true 4 e5 fun e6 => (E 51 [e6]).bind fun t7 => U.asInt x4 fun n8 => if 4 = 4 ∧ 0 ≤ n8 ∧ n8 < ((c3).length : Int) then if storable (.val t7) = true ∧ t7.size = 4 then (c3[(n8 : Int).toNat]?).bind fun e9 => if e9.size = 4 then (U.bin .add x4 (.int .i64 1)).bind fun t10 => f66_l0 E x0 t10 (c3.set (n8 : Int).toNat t7) else none else none else none)
 (some (.sl 4 c3)) := (loop_eq E _ _ _ _).trans (by kernel_rfl)
structure G_f66 (E : Env) : Prop where
  is : Is E 45 1 f66_ac [(2, none)]
  c_f65 : G_f65 E
theorem f66_E {E : Env} (h : G_f66 E) (a0 : U) : E 45 [a0] =
 (U.lenOf false a0).bind fun n1 => if 0 ≤ (n1 : Int) ∧ (n1 : Int) ≤ (n1 : Int) ∧ (n1 : Int) * 64 ≤ 140737488355328 ∧ ((.agg [(.int .i64 0), (.int .i64 0), (.nsl 2), (.nsl 2)]) : U).size = 4 then f66_l0 E a0 (.int .i64 0) (List.replicate ((n1 : Int) : Int).toNat (.agg [(.int .i64 0), (.int .i64 0), (.nsl 2), (.nsl 2)])) else none := (h.is _ rfl).trans ((runQ_V rfl).trans (by kernel_rfl))
def f51_ac : AC :=
 (.seq (rg [oo 2 (.box false 2 (.t 0)),
  oo 3 (.box false 3 (.t 1)),
  oo 4 (.mv (.c (.bool false)))])
 (.seq (.seq (rg [oo 5 (.faddr 0 0 (.t 2)),
  oo 6 (.load false 1 (.t 5)),
  oo 7 (.faddr 0 0 (.t 3)),
  oo 8 (.load false 1 (.t 7)),
  oo 9 (.bin .neq (.t 6) (.t 8))])
 (.cond (.t 9) (.seq (rg [oo 4 (.mv (.c (.bool false)))])
 .ret) .skip))
 (.seq (.seq (rg [oo 10 (.faddr 1 1 (.t 2)),
  oo 11 (.load false 1 (.t 10)),
  oo 12 (.faddr 1 1 (.t 3)),
  oo 13 (.load false 1 (.t 12)),
  oo 14 (.bin .neq (.t 11) (.t 13))])
 (.cond (.t 14) (.seq (rg [oo 4 (.mv (.c (.bool false)))])
 .ret) .skip))
 (.seq (rg [oo 4 (.mv (.c (.bool true)))])
 .ret))))
structure G_f51 (E : Env) : Prop where
  is : Is E 35 2 f51_ac [(4, none)]
theorem f51_E {E : Env} (h : G_f51 E) (a0 a1 : U) : E 35 [a0, a1] =
 U.noTup a0 fun x1 => U.noTup a1 fun x2 => U.asAgg x1 fun us3 => if 0 = sizes (us3.take 0) then (us3[0]?).bind fun e4 => U.asVar false 1 e4 fun e5 => U.asAgg x2 fun us6 => if 0 = sizes (us6.take 0) then (us6[0]?).bind fun e7 => U.asVar false 1 e7 fun e8 => (U.bin .neq e5 e8).bind fun t9 => U.asBool t9
 (some (.bool false))
 (U.asAgg x1 fun us10 => if 1 = sizes (us10.take 1) then (us10[1]?).bind fun e11 => U.asVar false 1 e11 fun e12 => U.asAgg x2 fun us13 => if 1 = sizes (us13.take 1) then (us13[1]?).bind fun e14 => U.asVar false 1 e14 fun e15 => (U.bin .neq e12 e15).bind fun t16 => U.asBool t16
 (some (.bool false))
 (some (.bool true)) else none else none) else none else none := (h.is _ rfl).trans ((runQ_V rfl).trans (by kernel_rfl))
def f52_b0 : AC :=
 (.seq (.seq (rg [oo 11 (.mv (.t 5)),
  oo 12 (.mv (.t 0)),
  oo 13 (.len false (.t 12)),
  oo 14 (.bin .lss (.t 11) (.t 13))])
 (.cond (.t 14) .skip (.exit 0)))
 (.seq (.block 1 (.seq (.region 10 [oo 17 (.mv (.t 0)),
  oo 18 (.mv (.t 5)),
  oo 19 (.iaddr 2 (.t 17) (.t 18)),
  oo 20 (.load true 2 (.t 19)),
  oo 21 (.mv (.t 1)),
  oo 22 (.mv (.t 5)),
  oo 23 (.iaddr 2 (.t 21) (.t 22)),
  oo 24 (.load true 2 (.t 23)),
  oo 25 (.call false 35 [(.t 20), (.t 24)]),
  oo 26 (.un .not (.t 25))])
 (.cond (.t 26) (.seq (rg [oo 4 (.mv (.c (.bool false)))])
 .ret) .skip)))
 (rg [oo 15 (.mv (.t 5)),
  oo 16 (.bin .add (.t 15) (ci 1)),
  oo 5 (.mv (.t 16))])))
def f52_r0 : AC :=
 (.seq (rg [oo 4 (.mv (.c (.bool true)))])
 .ret)
def f52_ac : AC :=
 (.seq (rg [oo 4 (.mv (.c (.bool false)))])
 (.seq (.seq (rg [oo 6 (.mv (.t 0)),
  oo 7 (.len false (.t 6)),
  oo 8 (.mv (.t 1)),
  oo 9 (.len false (.t 8)),
  oo 10 (.bin .neq (.t 7) (.t 9))])
 (.cond (.t 10) (.seq (rg [oo 4 (.mv (.c (.bool false)))])
 .ret) .skip))
 (.seq (.seq (rg [oo 5 (.mv (ci 0))])
 (.block 0 (.loop ⟨[0, 1, 5], [], []⟩ f52_b0)))
 f52_r0)))
noncomputable def f52_l0 (E : Env) (x0 : U) (x1 : U) (x5 : U) : Option U := loopK (roundOf E ⟨[0, 1, 5], [], []⟩ f52_b0 (blockK 0 (seqK (fun s => exec E f52_r0 s (finish [(4, none)])) (finish [(4, none)])))) ([.val x0, .val x1, .val x5], [])
theorem f52_l0_eq (E : Env) (x0 : U) (x1 : U) (x5 : U) : f52_l0 E x0 x1 x5 =
 (U.lenOf false x0).bind fun n4 => (U.bin .lss x5 (.int .i64 (n4 : Int))).bind fun t5 => U.asBool t5
 (U.asInt x5 fun n6 => U.elemAt 2 x0 n6 fun e7 => U.asVar true 2 e7 fun e8 => U.asInt x5 fun n9 => U.elemAt 2 x1 n9 fun e10 => U.asVar true 2 e10 fun e11 => (E 35 [e8, e11]).bind fun t12 => (U.un .not t12).bind fun t13 => U.asBool t13
 (some (.bool false))
 ((U.bin .add x5 (.int .i64 1)).bind fun t14 => f52_l0 E x0 x1 t14))
 (some (.bool true)) := (loop_eq E _ _ _ _).trans (by kernel_rfl)
structure G_f52 (E : Env) : Prop where
  is : Is E 34 2 f52_ac [(4, none)]
  c_f51 : G_f51 E
theorem f52_E {E : Env} (h : G_f52 E) (a0 a1 : U) : E 34 [a0, a1] =
 (U.lenOf false a0).bind fun n1 => (U.lenOf false a1).bind fun n2 => (U.bin .neq (.int .i64 (n1 : Int)) (.int .i64 (n2 : Int))).bind fun t3 => U.asBool t3
 (some (.bool false))
 (f52_l0 E a0 a1 (.int .i64 0)) := (h.is _ rfl).trans ((runQ_V rfl).trans (by kernel_rfl))
def f53_ac : AC :=
 (.seq (rg [oo 2 (.box false 2 (.t 0)),
  oo 3 (.box false 3 (.t 1)),
  oo 4 (.mv (.c (.bool false)))])
 (.seq (.seq (rg [oo 5 (.faddr 0 0 (.t 2)),
  oo 6 (.load false 1 (.t 5)),
  oo 7 (.faddr 0 0 (.t 3)),
  oo 8 (.load false 1 (.t 7)),
  oo 9 (.bin .neq (.t 6) (.t 8))])
 (.cond (.t 9) (.seq (rg [oo 4 (.mv (.c (.bool false)))])
 .ret) .skip))
 (.seq (.seq (rg [oo 10 (.faddr 1 1 (.t 2)),
  oo 11 (.load false 1 (.t 10)),
  oo 12 (.faddr 1 1 (.t 3)),
  oo 13 (.load false 1 (.t 12)),
  oo 14 (.bin .neq (.t 11) (.t 13))])
 (.cond (.t 14) (.seq (rg [oo 4 (.mv (.c (.bool false)))])
 .ret) .skip))
 (.seq (rg [oo 4 (.mv (.c (.bool true)))])
 .ret))))
structure G_f53 (E : Env) : Prop where
  is : Is E 36 2 f53_ac [(4, none)]
theorem f53_E {E : Env} (h : G_f53 E) (a0 a1 : U) : E 36 [a0, a1] =
 U.noTup a0 fun x1 => U.noTup a1 fun x2 => U.asAgg x1 fun us3 => if 0 = sizes (us3.take 0) then (us3[0]?).bind fun e4 => U.asVar false 1 e4 fun e5 => U.asAgg x2 fun us6 => if 0 = sizes (us6.take 0) then (us6[0]?).bind fun e7 => U.asVar false 1 e7 fun e8 => (U.bin .neq e5 e8).bind fun t9 => U.asBool t9
 (some (.bool false))
 (U.asAgg x1 fun us10 => if 1 = sizes (us10.take 1) then (us10[1]?).bind fun e11 => U.asVar false 1 e11 fun e12 => U.asAgg x2 fun us13 => if 1 = sizes (us13.take 1) then (us13[1]?).bind fun e14 => U.asVar false 1 e14 fun e15 => (U.bin .neq e12 e15).bind fun t16 => U.asBool t16
 (some (.bool false))
 (some (.bool true)) else none else none) else none else none := (h.is _ rfl).trans ((runQ_V rfl).trans (by kernel_rfl))
def f54_b0 : AC :=
 (.seq (.seq (rg [oo 11 (.mv (.t 5)),
  oo 12 (.mv (.t 0)),
  oo 13 (.len false (.t 12)),
  oo 14 (.bin .lss (.t 11) (.t 13))])
 (.cond (.t 14) .skip (.exit 0)))
 (.seq (.block 1 (.seq (.region 10 [oo 17 (.mv (.t 0)),
  oo 18 (.mv (.t 5)),
  oo 19 (.iaddr 2 (.t 17) (.t 18)),
  oo 20 (.load true 2 (.t 19)),
  oo 21 (.mv (.t 1)),
  oo 22 (.mv (.t 5)),
  oo 23 (.iaddr 2 (.t 21) (.t 22)),
  oo 24 (.load true 2 (.t 23)),
  oo 25 (.call false 36 [(.t 20), (.t 24)]),
  oo 26 (.un .not (.t 25))])
 (.cond (.t 26) (.seq (rg [oo 4 (.mv (.c (.bool false)))])
 .ret) .skip)))
 (rg [oo 15 (.mv (.t 5)),
  oo 16 (.bin .add (.t 15) (ci 1)),
  oo 5 (.mv (.t 16))])))
def f54_r0 : AC :=
 (.seq (rg [oo 4 (.mv (.c (.bool true)))])
 .ret)
def f54_ac : AC :=
 (.seq (rg [oo 4 (.mv (.c (.bool false)))])
 (.seq (.seq (rg [oo 6 (.mv (.t 0)),
  oo 7 (.len false (.t 6)),
  oo 8 (.mv (.t 1)),
  oo 9 (.len false (.t 8)),
  oo 10 (.bin .neq (.t 7) (.t 9))])
 (.cond (.t 10) (.seq (rg [oo 4 (.mv (.c (.bool false)))])
 .ret) .skip))
 (.seq (.seq (rg [oo 5 (.mv (ci 0))])
 (.block 0 (.loop ⟨[0, 1, 5], [], []⟩ f54_b0)))
 f54_r0)))
noncomputable def f54_l0 (E : Env) (x0 : U) (x1 : U) (x5 : U) : Option U := loopK (roundOf E ⟨[0, 1, 5], [], []⟩ f54_b0 (blockK 0 (seqK (fun s => exec E f54_r0 s (finish [(4, none)])) (finish [(4, none)])))) ([.val x0, .val x1, .val x5], [])
theorem f54_l0_eq (E : Env) (x0 : U) (x1 : U) (x5 : U) : f54_l0 E x0 x1 x5 =
 (U.lenOf false x0).bind fun n4 => (U.bin .lss x5 (.int .i64 (n4 : Int))).bind fun t5 => U.asBool t5
 (U.asInt x5 fun n6 => U.elemAt 2 x0 n6 fun e7 => U.asVar true 2 e7 fun e8 => U.asInt x5 fun n9 => U.elemAt 2 x1 n9 fun e10 => U.asVar true 2 e10 fun e11 => (E 36 [e8, e11]).bind fun t12 => (U.un .not t12).bind fun t13 => U.asBool t13
 (some (.bool false))
 ((U.bin .add x5 (.int .i64 1)).bind fun t14 => f54_l0 E x0 x1 t14))
 (some (.bool true)) := (loop_eq E _ _ _ _).trans (by kernel_rfl)
structure G_f54 (E : Env) : Prop where
  is : Is E 33 2 f54_ac [(4, none)]
  c_f53 : G_f53 E
theorem f54_E {E : Env} (h : G_f54 E) (a0 a1 : U) : E 33 [a0, a1] =
 (U.lenOf false a0).bind fun n1 => (U.lenOf false a1).bind fun n2 => (U.bin .neq (.int .i64 (n1 : Int)) (.int .i64 (n2 : Int))).bind fun t3 => U.asBool t3
 (some (.bool false))
 (f54_l0 E a0 a1 (.int .i64 0)) := (h.is _ rfl).trans ((runQ_V rfl).trans (by kernel_rfl))
def f49_ac : AC :=
 (.seq (rg [oo 2 (.box false 2 (.t 0)),
  oo 3 (.box false 3 (.t 1)),
  oo 4 (.mv (.c (.bool false)))])
 (.seq (.seq (rg [oo 5 (.faddr 0 0 (.t 2)),
  oo 6 (.load false 1 (.t 5)),
  oo 7 (.faddr 0 0 (.t 3)),
  oo 8 (.load false 1 (.t 7)),
  oo 9 (.bin .neq (.t 6) (.t 8))])
 (.cond (.t 9) (.seq (rg [oo 4 (.mv (.c (.bool false)))])
 .ret) .skip))
 (.seq (.seq (rg [oo 10 (.faddr 1 1 (.t 2)),
  oo 11 (.load false 1 (.t 10)),
  oo 12 (.faddr 1 1 (.t 3)),
  oo 13 (.load false 1 (.t 12)),
  oo 14 (.bin .neq (.t 11) (.t 13))])
 (.cond (.t 14) (.seq (rg [oo 4 (.mv (.c (.bool false)))])
 .ret) .skip))
 (.seq (.seq (rg [oo 15 (.faddr 2 2 (.t 2)),
  oo 16 (.load false 1 (.t 15)),
  oo 17 (.faddr 2 2 (.t 3)),
  oo 18 (.load false 1 (.t 17)),
  oo 19 (.call false 34 [(.t 16), (.t 18)]),
  oo 20 (.un .not (.t 19))])
 (.cond (.t 20) (.seq (rg [oo 4 (.mv (.c (.bool false)))])
 .ret) .skip))
 (.seq (.seq (rg [oo 21 (.faddr 3 3 (.t 2)),
  oo 22 (.load false 1 (.t 21)),
  oo 23 (.faddr 3 3 (.t 3)),
  oo 24 (.load false 1 (.t 23)),
  oo 25 (.call false 33 [(.t 22), (.t 24)]),
  oo 26 (.un .not (.t 25))])
 (.cond (.t 26) (.seq (rg [oo 4 (.mv (.c (.bool false)))])
 .ret) .skip))
 (.seq (rg [oo 4 (.mv (.c (.bool true)))])
 .ret))))))
structure G_f49 (E : Env) : Prop where
  is : Is E 56 2 f49_ac [(4, none)]
  c_f52 : G_f52 E
  c_f54 : G_f54 E
theorem f49_E {E : Env} (h : G_f49 E) (a0 a1 : U) : E 56 [a0, a1] =
 U.noTup a0 fun x1 => U.noTup a1 fun x2 => U.asAgg x1 fun us3 => if 0 = sizes (us3.take 0) then (us3[0]?).bind fun e4 => U.asVar false 1 e4 fun e5 => U.asAgg x2 fun us6 => if 0 = sizes (us6.take 0) then (us6[0]?).bind fun e7 => U.asVar false 1 e7 fun e8 => (U.bin .neq e5 e8).bind fun t9 => U.asBool t9
 (some (.bool false))
 (U.asAgg x1 fun us10 => if 1 = sizes (us10.take 1) then (us10[1]?).bind fun e11 => U.asVar false 1 e11 fun e12 => U.asAgg x2 fun us13 => if 1 = sizes (us13.take 1) then (us13[1]?).bind fun e14 => U.asVar false 1 e14 fun e15 => (U.bin .neq e12 e15).bind fun t16 => U.asBool t16
 (some (.bool false))
 (U.asAgg x1 fun us17 => if 2 = sizes (us17.take 2) then (us17[2]?).bind fun e18 => U.asVar false 1 e18 fun e19 => U.asAgg x2 fun us20 => if 2 = sizes (us20.take 2) then (us20[2]?).bind fun e21 => U.asVar false 1 e21 fun e22 => (E 34 [e19, e22]).bind fun t23 => (U.un .not t23).bind fun t24 => U.asBool t24
 (some (.bool false))
 (U.asAgg x1 fun us25 => if 3 = sizes (us25.take 3) then (us25[3]?).bind fun e26 => U.asVar false 1 e26 fun e27 => U.asAgg x2 fun us28 => if 3 = sizes (us28.take 3) then (us28[3]?).bind fun e29 => U.asVar false 1 e29 fun e30 => (E 33 [e27, e30]).bind fun t31 => (U.un .not t31).bind fun t32 => U.asBool t32
 (some (.bool false))
 (some (.bool true)) else none else none) else none else none) else none else none) else none else none := (h.is _ rfl).trans ((runQ_V rfl).trans (by kernel_rfl))
def f50_b0 : AC :=
 (.seq (.seq (rg [oo 11 (.mv (.t 5)),
  oo 12 (.mv (.t 0)),
  oo 13 (.len false (.t 12)),
  oo 14 (.bin .lss (.t 11) (.t 13))])
 (.cond (.t 14) .skip (.exit 0)))
 (.seq (.block 1 (.seq (.region 10 [oo 17 (.mv (.t 0)),
  oo 18 (.mv (.t 5)),
  oo 19 (.iaddr 4 (.t 17) (.t 18)),
  oo 20 (.load true 4 (.t 19)),
  oo 21 (.mv (.t 1)),
  oo 22 (.mv (.t 5)),
  oo 23 (.iaddr 4 (.t 21) (.t 22)),
  oo 24 (.load true 4 (.t 23)),
  oo 25 (.call false 56 [(.t 20), (.t 24)]),
  oo 26 (.un .not (.t 25))])
 (.cond (.t 26) (.seq (rg [oo 4 (.mv (.c (.bool false)))])
 .ret) .skip)))
 (rg [oo 15 (.mv (.t 5)),
  oo 16 (.bin .add (.t 15) (ci 1)),
  oo 5 (.mv (.t 16))])))
def f50_r0 : AC :=
 (.seq (rg [oo 4 (.mv (.c (.bool true)))])
 .ret)
def f50_ac : AC :=
 (.seq (rg [oo 4 (.mv (.c (.bool false)))])
 (.seq (.seq (rg [oo 6 (.mv (.t 0)),
  oo 7 (.len false (.t 6)),
  oo 8 (.mv (.t 1)),
  oo 9 (.len false (.t 8)),
  oo 10 (.bin .neq (.t 7) (.t 9))])
 (.cond (.t 10) (.seq (rg [oo 4 (.mv (.c (.bool false)))])
 .ret) .skip))
 (.seq (.seq (rg [oo 5 (.mv (ci 0))])
 (.block 0 (.loop ⟨[0, 1, 5], [], []⟩ f50_b0)))
 f50_r0)))
noncomputable def f50_l0 (E : Env) (x0 : U) (x1 : U) (x5 : U) : Option U := loopK (roundOf E ⟨[0, 1, 5], [], []⟩ f50_b0 (blockK 0 (seqK (fun s => exec E f50_r0 s (finish [(4, none)])) (finish [(4, none)])))) ([.val x0, .val x1, .val x5], [])
theorem f50_l0_eq (E : Env) (x0 : U) (x1 : U) (x5 : U) : f50_l0 E x0 x1 x5 =
 (U.lenOf false x0).bind fun n4 => (U.bin .lss x5 (.int .i64 (n4 : Int))).bind fun t5 => U.asBool t5
 (U.asInt x5 fun n6 => U.elemAt 4 x0 n6 fun e7 => U.asVar true 4 e7 fun e8 => U.asInt x5 fun n9 => U.elemAt 4 x1 n9 fun e10 => U.asVar true 4 e10 fun e11 => (E 56 [e8, e11]).bind fun t12 => (U.un .not t12).bind fun t13 => U.asBool t13
 (some (.bool false))
 ((U.bin .add x5 (.int .i64 1)).bind fun t14 => f50_l0 E x0 x1 t14))
 (some (.bool true)) := (loop_eq E _ _ _ _).trans (by kernel_rfl)
structure G_f50 (E : Env) : Prop where
  is : Is E 46 2 f50_ac [(4, none)]
  c_f49 : G_f49 E
theorem f50_E {E : Env} (h : G_f50 E) (a0 a1 : U) : E 46 [a0, a1] =
 (U.lenOf false a0).bind fun n1 => (U.lenOf false a1).bind fun n2 => (U.bin .neq (.int .i64 (n1 : Int)) (.int .i64 (n2 : Int))).bind fun t3 => U.asBool t3
 (some (.bool false))
 (f50_l0 E a0 a1 (.int .i64 0)) := (h.is _ rfl).trans ((runQ_V rfl).trans (by kernel_rfl))
def f108_r0 : AC :=
 .ret
def f108_ac : AC :=
 (.seq (rg [oo 1 (.box false 1 (.t 0)),
  oo 2 (.alloc 2 (.agg [(.int .i64 0), (.int .i64 0), (.nsl 2), (.nsl 2)]))])
 (.seq (.regD 12 [7, 10, 11, 14] [(4, 7), (7, 11), (8, 11)] [2, 4, 6, 10, 14] [1, 2, 10, 14] [oo 3 (.faddr 0 0 (.t 1)),
  oo 4 (.load false 1 (.t 3)),
  oo 5 (.faddr 1 1 (.t 1)),
  oo 6 (.load false 1 (.t 5)),
  oo 7 (.bslice 1 7 2 0 (.agg [(.int .i64 0), (.int .i64 0)]) []),
  oo 8 (.faddr 2 2 (.t 1)),
  oo 9 (.load false 1 (.t 8)),
  oo 10 (.append false 10 2 16 (.t 7) (.t 9)),
  oo 11 (.bslice 1 11 2 0 (.agg [(.int .i64 0), (.int .i64 0)]) []),
  oo 12 (.faddr 3 3 (.t 1)),
  oo 13 (.load false 1 (.t 12)),
  oo 14 (.append false 14 2 16 (.t 11) (.t 13)),
  oo 15 (.build [(.int .i64 0), (.int .i64 0), (.nsl 2), (.nsl 2)] [(0, (.t 4)), (1, (.t 6)), (2, (.t 10)), (3, (.t 14))]),
  ⟨none, .storeM 3000 4 (.t 2) (.t 15), none⟩])
 f108_r0))
theorem f108_eq (E : Env) (a0 : U) : run E f108_ac [(2, some (true, 4))] [a0] =
 U.noTup a0 fun x1 => U.asAgg x1 fun us20 => if 0 = sizes (us20.take 0) then (us20[0]?).bind fun e21 => U.asVar false 1 e21 fun e22 => U.asAgg x1 fun us23 => if 1 = sizes (us23.take 1) then (us23[1]?).bind fun e24 => U.asVar false 1 e24 fun e25 => U.asAgg x1 fun us26 => if 2 = sizes (us26.take 2) then (us26[2]?).bind fun e27 => U.asVar false 1 e27 fun e28 => U.asAgg x1 fun us29 => if 3 = sizes (us29.take 3) then (us29[3]?).bind fun e30 => U.asVar false 1 e30 fun e31 => (U.elems 2 e28).bind fun ys32 => if 2 = 2 ∧ 2 = 2 ∧ ((([] : List U)).length + (ys32 : List U).length) * 16 ≤ 140737488355328 then (U.elems 2 e31).bind fun ys33 => if 2 = 2 ∧ 2 = 2 ∧ ((([] : List U)).length + (ys33 : List U).length) * 16 ≤ 140737488355328 then if partable (.val e22) = true ∧ e22.size = 1 then if partable (.val e25) = true ∧ e25.size = 1 then U.noTup e22 fun x34 => U.noTup e25 fun x35 => if (.agg [.val x34, .val x35, .asl 2 (([] : List U) ++ ys32), .asl 2 (([] : List U) ++ ys33)] : D).size = 4 then U.asVar true 4 (.agg [x34, x35, (.sl 2 (([] : List U) ++ ys32)), (.sl 2 (([] : List U) ++ ys33))]) fun e36 => some e36 else none else none else none else none else none else none else none else none else none :=
 by
  refine Eq.trans (b := U.noTup a0 fun x1 => ((U.asAgg x1 fun us2 => if 0 = sizes (us2.take 0) then (us2[0]?).bind fun e3 => U.asVar false 1 e3 fun e4 => U.asAgg x1 fun us5 => if 1 = sizes (us5.take 1) then (us5[1]?).bind fun e6 => U.asVar false 1 e6 fun e7 => U.asAgg x1 fun us8 => if 2 = sizes (us8.take 2) then (us8[2]?).bind fun e9 => U.asVar false 1 e9 fun e10 => U.asAgg x1 fun us11 => if 3 = sizes (us11.take 3) then (us11[3]?).bind fun e12 => U.asVar false 1 e12 fun e13 => meet (meet ((U.elems 2 e10).bind fun ys14 => if 2 = 2 ∧ 2 = 2 ∧ ((([] : List U)).length + (ys14 : List U).length) * 16 ≤ 140737488355328 then (U.elems 2 e13).bind fun ys15 => if 2 = 2 ∧ 2 = 2 ∧ ((([] : List U)).length + (ys15 : List U).length) * 16 ≤ 140737488355328 then some ([.ptr 2 [], .val e4, .val e7, .ref 10 [] 2 none, .ref 14 [] 2 none], [some (.box (.val x1)), some (.box (.val (.agg [(.int .i64 0), (.int .i64 0), (.nsl 2), (.nsl 2)]))), some (.vir (.asl 2 (([] : List U) ++ ys14))), some (.vir (.asl 2 (([] : List U) ++ ys15)))]) else none else none) ((U.elems 2 e10).bind fun ys16 => if 2 = 2 ∧ 2 = 2 ∧ ((([] : List U)).length + (ys16 : List U).length) * 16 ≤ 140737488355328 then (U.elems 2 e13).bind fun ys17 => if 2 = 2 ∧ 2 = 2 ∧ ((([] : List U)).length + (ys17 : List U).length) * 16 ≤ 140737488355328 then some ([.ptr 2 [], .val e4, .val e7, .ref 10 [] 2 none, .ref 14 [] 2 none], [some (.box (.val x1)), some (.box (.val (.agg [(.int .i64 0), (.int .i64 0), (.nsl 2), (.nsl 2)]))), some (.vir (.asl 2 (([] : List U) ++ ys16))), some (.vir (.asl 2 (([] : List U) ++ ys17)))]) else none else none)) ((U.elems 2 e10).bind fun ys18 => if 2 = 2 ∧ 2 = 2 ∧ ((([] : List U)).length + (ys18 : List U).length) * 16 ≤ 140737488355328 then (U.elems 2 e13).bind fun ys19 => if 2 = 2 ∧ 2 = 2 ∧ ((([] : List U)).length + (ys19 : List U).length) * 16 ≤ 140737488355328 then some ([.ptr 2 [], .val e4, .val e7, .ref 10 [] 2 none, .ref 14 [] 2 none], [some (.box (.val x1)), some (.box (.val (.agg [(.int .i64 0), (.int .i64 0), (.nsl 2), (.nsl 2)]))), some (.vir (.asl 2 (([] : List U) ++ ys18))), some (.vir (.asl 2 (([] : List U) ++ ys19)))]) else none else none) else none else none else none else none).bind fun p => execOps false E [oo 15 (.build [(.int .i64 0), (.int .i64 0), (.nsl 2), (.nsl 2)] [(0, (.t 4)), (1, (.t 6)), (2, (.t 10)), (3, (.t 14))]),
  ⟨none, .storeM 3000 4 (.t 2) (.t 15), none⟩] (unpackS [2, 4, 6, 10, 14] [1, 2, 10, 14] p) ((seqK (fun s => exec E f108_r0 s (finish [(2, some (true, 4))])) (finish [(2, some (true, 4))])) .normal))) (by kernel_rfl) ?_
  simp only [meet_self, asAgg_bind, asSlK_bind, asVar_bind, asInt_bind, asBool_bind, ite_bind, Option.bind_assoc, Option.bind_some]
  kernel_rfl
structure G_f108 (E : Env) : Prop where
  is : Is E 290 1 f108_ac [(2, some (true, 4))]
theorem f108_E {E : Env} (h : G_f108 E) (a0 : U) : E 290 [a0] =
 U.noTup a0 fun x1 => U.asAgg x1 fun us20 => if 0 = sizes (us20.take 0) then (us20[0]?).bind fun e21 => U.asVar false 1 e21 fun e22 => U.asAgg x1 fun us23 => if 1 = sizes (us23.take 1) then (us23[1]?).bind fun e24 => U.asVar false 1 e24 fun e25 => U.asAgg x1 fun us26 => if 2 = sizes (us26.take 2) then (us26[2]?).bind fun e27 => U.asVar false 1 e27 fun e28 => U.asAgg x1 fun us29 => if 3 = sizes (us29.take 3) then (us29[3]?).bind fun e30 => U.asVar false 1 e30 fun e31 => (U.elems 2 e28).bind fun ys32 => if 2 = 2 ∧ 2 = 2 ∧ ((([] : List U)).length + (ys32 : List U).length) * 16 ≤ 140737488355328 then (U.elems 2 e31).bind fun ys33 => if 2 = 2 ∧ 2 = 2 ∧ ((([] : List U)).length + (ys33 : List U).length) * 16 ≤ 140737488355328 then if partable (.val e22) = true ∧ e22.size = 1 then if partable (.val e25) = true ∧ e25.size = 1 then U.noTup e22 fun x34 => U.noTup e25 fun x35 => if (.agg [.val x34, .val x35, .asl 2 (([] : List U) ++ ys32), .asl 2 (([] : List U) ++ ys33)] : D).size = 4 then U.asVar true 4 (.agg [x34, x35, (.sl 2 (([] : List U) ++ ys32)), (.sl 2 (([] : List U) ++ ys33))]) fun e36 => some e36 else none else none else none else none else none else none else none else none else none := (h.is _ rfl).trans ((runQ_V rfl).trans (f108_eq E a0))
def f93_b0 : AC :=
 (.seq (.seq (rg [oo 6 (.mv (.t 5)),
  oo 7 (.mv (.t 0)),
  oo 8 (.len false (.t 7)),
  oo 9 (.bin .lss (.t 6) (.t 8))])
 (.cond (.t 9) .skip (.exit 0)))
 (.seq (.block 1 (.seq (rg [oo 12 (.mv (.t 0)),
  oo 13 (.mv (.t 5)),
  oo 14 (.iaddr 4 (.t 12) (.t 13)),
  oo 15 (.faddr 0 0 (.t 14)),
  oo 16 (.load false 1 (.t 15)),
  oo 17 (.mv (.t 1)),
  oo 18 (.bin .eql (.t 16) (.t 17))])
 (.cond (.t 18) (.seq (rg [oo 19 (.mv (.t 5)),
  oo 4 (.mv (.t 19))])
 .ret) .skip)))
 (rg [oo 10 (.mv (.t 5)),
  oo 11 (.bin .add (.t 10) (ci 1)),
  oo 5 (.mv (.t 11))])))
def f93_r0 : AC :=
 (.seq (rg [oo 4 (.mv (ci (-1)))])
 .ret)
def f93_ac : AC :=
 (.seq (rg [oo 4 (.mv (ci 0))])
 (.seq (.seq (rg [oo 5 (.mv (ci 0))])
 (.block 0 (.loop ⟨[0, 1, 5], [], []⟩ f93_b0)))
 f93_r0))
noncomputable def f93_l0 (E : Env) (x0 : U) (x1 : U) (x5 : U) : Option U := loopK (roundOf E ⟨[0, 1, 5], [], []⟩ f93_b0 (blockK 0 (seqK (fun s => exec E f93_r0 s (finish [(4, none)])) (finish [(4, none)])))) ([.val x0, .val x1, .val x5], [])
theorem f93_l0_eq (E : Env) (x0 : U) (x1 : U) (x5 : U) : f93_l0 E x0 x1 x5 =
 (U.lenOf false x0).bind fun n1 => (U.bin .lss x5 (.int .i64 (n1 : Int))).bind fun t2 => U.asBool t2
 (U.asInt x5 fun n3 => U.elemAt 4 x0 n3 fun e4 => U.fieldAt 0 0 e4 fun f5 => U.asVar false 1 f5 fun e6 => (U.bin .eql e6 x1).bind fun t7 => U.asBool t7
 (some x5)
 ((U.bin .add x5 (.int .i64 1)).bind fun t8 => f93_l0 E x0 x1 t8))
 (some (.int .i64 (-1))) := (loop_eq E _ _ _ _).trans (by kernel_rfl)
structure G_f93 (E : Env) : Prop where
  is : Is E 241 2 f93_ac [(4, none)]
theorem f93_E {E : Env} (h : G_f93 E) (a0 a1 : U) : E 241 [a0, a1] =
 f93_l0 E a0 a1 (.int .i64 0) := (h.is _ rfl).trans ((runQ_V rfl).trans (by kernel_rfl))
def f110_ac : AC :=
 (.seq (rg [oo 6 (.mv (.c (.bool false)))])
 (.seq (rg [oo 7 (.mv (.t 0)),
  oo 8 (.mv (.t 1)),
  oo 9 (.bin .geq (.t 7) (.t 8)),
  oo 10 (.mv (.t 9)),
  ⟨some 11, .mv (.t 0), some (10, true)⟩,
  ⟨some 12, .mv (.t 2), some (10, true)⟩,
  ⟨some 13, .bin .leq (.t 11) (.t 12), some (10, true)⟩,
  oo 14 (.pick (.t 10) (.t 13) (.c (.bool false))),
  oo 6 (.mv (.t 14))])
 .ret))
structure G_f110 (E : Env) : Prop where
  is : Is E 6 3 f110_ac [(6, none)]
theorem f110_E {E : Env} (h : G_f110 E) (a0 a1 a2 : U) : E 6 [a0, a1, a2] =
 (U.bin .geq a0 a1).bind fun t1 => U.asBool t1
 ((U.bin .leq a0 a2).bind fun t2 => some t2)
 (some (.bool false)) := (h.is _ rfl).trans ((runQ_V rfl).trans (by kernel_rfl))
def f111_ac : AC :=
 (.seq (rg [oo 2 (.box false 2 (.t 0)),
  oo 3 (.box false 3 (.t 1)),
  oo 4 (.mv (.c (.bool false)))])
 (.seq (rg [oo 5 (.faddr 0 0 (.t 2)),
  oo 6 (.load false 1 (.t 5)),
  oo 7 (.faddr 0 0 (.t 3)),
  oo 8 (.load false 1 (.t 7)),
  oo 9 (.bin .lss (.t 6) (.t 8)),
  oo 10 (.mv (.t 9)),
  ⟨some 11, .faddr 0 0 (.t 2), some (10, false)⟩,
  ⟨some 12, .load false 1 (.t 11), some (10, false)⟩,
  ⟨some 13, .faddr 0 0 (.t 3), some (10, false)⟩,
  ⟨some 14, .load false 1 (.t 13), some (10, false)⟩,
  ⟨some 15, .bin .eql (.t 12) (.t 14), some (10, false)⟩,
  ⟨some 16, .mv (.t 15), some (10, false)⟩,
  ⟨some 17, .faddr 1 1 (.t 2), some (16, true)⟩,
  ⟨some 18, .load false 1 (.t 17), some (16, true)⟩,
  ⟨some 19, .faddr 1 1 (.t 3), some (16, true)⟩,
  ⟨some 20, .load false 1 (.t 19), some (16, true)⟩,
  ⟨some 21, .bin .lss (.t 18) (.t 20), some (16, true)⟩,
  ⟨some 22, .pick (.t 16) (.t 21) (.c (.bool false)), some (10, false)⟩,
  oo 23 (.pick (.t 10) (.c (.bool true)) (.t 22)),
  oo 4 (.mv (.t 23))])
 .ret))
structure G_f111 (E : Env) : Prop where
  is : Is E 71 2 f111_ac [(4, none)]
theorem f111_E {E : Env} (h : G_f111 E) (a0 a1 : U) : E 71 [a0, a1] =
 U.noTup a0 fun x1 => U.noTup a1 fun x2 => U.asAgg x1 fun us3 => if 0 = sizes (us3.take 0) then (us3[0]?).bind fun e4 => U.asVar false 1 e4 fun e5 => U.asAgg x2 fun us6 => if 0 = sizes (us6.take 0) then (us6[0]?).bind fun e7 => U.asVar false 1 e7 fun e8 => (U.bin .lss e5 e8).bind fun t9 => U.asBool t9
 (some (.bool true))
 (U.asAgg x1 fun us10 => if 0 = sizes (us10.take 0) then (us10[0]?).bind fun e11 => U.asVar false 1 e11 fun e12 => U.asAgg x2 fun us13 => if 0 = sizes (us13.take 0) then (us13[0]?).bind fun e14 => U.asVar false 1 e14 fun e15 => (U.bin .eql e12 e15).bind fun t16 => U.asBool t16
 (U.asAgg x1 fun us17 => if 1 = sizes (us17.take 1) then (us17[1]?).bind fun e18 => U.asVar false 1 e18 fun e19 => U.asAgg x2 fun us20 => if 1 = sizes (us20.take 1) then (us20[1]?).bind fun e21 => U.asVar false 1 e21 fun e22 => (U.bin .lss e19 e22).bind fun t23 => some t23 else none else none)
 (some (.bool false)) else none else none) else none else none := (h.is _ rfl).trans ((runQ_V rfl).trans (by kernel_rfl))
def f101_b1 : AC :=
 (.seq (.seq (rg [oo 7 (.mv (.t 3)),
  oo 8 (.faddr 7 7 (.t 1)),
  oo 9 (.load false 1 (.t 8)),
  oo 10 (.len false (.t 9)),
  oo 11 (.bin .lss (.t 7) (.t 10))])
 (.cond (.t 11) .skip (.exit 0)))
 (.seq (.block 1 (.seq (rg [oo 14 (.faddr 7 7 (.t 1)),
  oo 15 (.load false 1 (.t 14)),
  oo 16 (.mv (.t 3)),
  oo 17 (.iaddr 2 (.t 15) (.t 16)),
  oo 18 (.load true 2 (.t 17)),
  oo 4 (.alloc 4 (.agg [(.int .i64 0), (.int .i64 0)])),
  ⟨none, .store 2 (.t 4) (.t 18), none⟩])
 (.seq (.region 25 [oo 19 (.faddr 0 0 (.t 4)),
  oo 20 (.load false 1 (.t 19)),
  oo 21 (.call false 6 [(.t 20), (ci 0), (ci 5)]),
  oo 22 (.un .not (.t 21)),
  oo 23 (.mv (.t 22)),
  ⟨some 24, .faddr 1 1 (.t 4), some (23, false)⟩,
  ⟨some 25, .load false 1 (.t 24), some (23, false)⟩,
  ⟨some 26, .call false 6 [(.t 25), (ci 0), (ci 999)], some (23, false)⟩,
  ⟨some 27, .un .not (.t 26), some (23, false)⟩,
  oo 28 (.pick (.t 23) (.c (.bool true)) (.t 27)),
  oo 29 (.mv (.t 28)),
  ⟨some 30, .mv (.t 3), some (29, false)⟩,
  ⟨some 31, .bin .gtr (.t 30) (ci 0), some (29, false)⟩,
  ⟨some 32, .mv (.t 31), some (29, false)⟩,
  ⟨some 33, .faddr 7 7 (.t 1), some (32, true)⟩,
  ⟨some 34, .load false 1 (.t 33), some (32, true)⟩,
  ⟨some 35, .mv (.t 3), some (32, true)⟩,
  ⟨some 36, .bin .sub (.t 35) (ci 1), some (32, true)⟩,
  ⟨some 37, .iaddr 2 (.t 34) (.t 36), some (32, true)⟩,
  ⟨some 38, .load true 2 (.t 37), some (32, true)⟩,
  ⟨some 39, .load true 2 (.t 4), some (32, true)⟩,
  ⟨some 40, .call false 71 [(.t 38), (.t 39)], some (32, true)⟩,
  ⟨some 41, .un .not (.t 40), some (32, true)⟩,
  ⟨some 42, .pick (.t 32) (.t 41) (.c (.bool false)), some (29, false)⟩,
  oo 43 (.pick (.t 29) (.c (.bool true)) (.t 42))])
 (.cond (.t 43) (.seq (rg [oo 2 (.mv (.c (.bool false)))])
 .ret) .skip))))
 (rg [oo 12 (.mv (.t 3)),
  oo 13 (.bin .add (.t 12) (ci 1)),
  oo 3 (.mv (.t 13))])))
def f101_b0 : AC :=
 (.seq (.seq (rg [oo 44 (.mv (.t 5)),
  oo 45 (.faddr 8 8 (.t 1)),
  oo 46 (.load false 1 (.t 45)),
  oo 47 (.len false (.t 46)),
  oo 48 (.bin .lss (.t 44) (.t 47))])
 (.cond (.t 48) .skip (.exit 2)))
 (.seq (.block 3 (.seq (rg [oo 51 (.faddr 8 8 (.t 1)),
  oo 52 (.load false 1 (.t 51)),
  oo 53 (.mv (.t 5)),
  oo 54 (.iaddr 2 (.t 52) (.t 53)),
  oo 55 (.load true 2 (.t 54)),
  oo 6 (.alloc 6 (.agg [(.int .i64 0), (.int .i64 0)])),
  ⟨none, .store 2 (.t 6) (.t 55), none⟩])
 (.seq (.region 26 [oo 56 (.faddr 0 0 (.t 6)),
  oo 57 (.load false 1 (.t 56)),
  oo 58 (.call false 6 [(.t 57), (ci 0), (ci 5)]),
  oo 59 (.un .not (.t 58)),
  oo 60 (.mv (.t 59)),
  ⟨some 61, .faddr 1 1 (.t 6), some (60, false)⟩,
  ⟨some 62, .load false 1 (.t 61), some (60, false)⟩,
  ⟨some 63, .call false 6 [(.t 62), (ci (-1)), (ci 99)], some (60, false)⟩,
  ⟨some 64, .un .not (.t 63), some (60, false)⟩,
  oo 65 (.pick (.t 60) (.c (.bool true)) (.t 64)),
  oo 66 (.mv (.t 65)),
  ⟨some 67, .mv (.t 5), some (66, false)⟩,
  ⟨some 68, .bin .gtr (.t 67) (ci 0), some (66, false)⟩,
  ⟨some 69, .mv (.t 68), some (66, false)⟩,
  ⟨some 70, .faddr 8 8 (.t 1), some (69, true)⟩,
  ⟨some 71, .load false 1 (.t 70), some (69, true)⟩,
  ⟨some 72, .mv (.t 5), some (69, true)⟩,
  ⟨some 73, .bin .sub (.t 72) (ci 1), some (69, true)⟩,
  ⟨some 74, .iaddr 2 (.t 71) (.t 73), some (69, true)⟩,
  ⟨some 75, .faddr 0 0 (.t 74), some (69, true)⟩,
  ⟨some 76, .load false 1 (.t 75), some (69, true)⟩,
  ⟨some 77, .faddr 0 0 (.t 6), some (69, true)⟩,
  ⟨some 78, .load false 1 (.t 77), some (69, true)⟩,
  ⟨some 79, .bin .geq (.t 76) (.t 78), some (69, true)⟩,
  ⟨some 80, .pick (.t 69) (.t 79) (.c (.bool false)), some (66, false)⟩,
  oo 81 (.pick (.t 66) (.c (.bool true)) (.t 80))])
 (.cond (.t 81) (.seq (rg [oo 2 (.mv (.c (.bool false)))])
 .ret) .skip))))
 (rg [oo 49 (.mv (.t 5)),
  oo 50 (.bin .add (.t 49) (ci 1)),
  oo 5 (.mv (.t 50))])))
def f101_r0 : AC :=
 (.seq (.seq (rg [oo 82 (.faddr 0 0 (.t 1)),
  oo 83 (.load false 1 (.t 82)),
  oo 84 (.call false 6 [(.t 83), (ci 1), (ci 9)]),
  oo 85 (.un .not (.t 84)),
  oo 86 (.mv (.t 85)),
  ⟨some 87, .faddr 1 1 (.t 1), some (86, false)⟩,
  ⟨some 88, .load false 1 (.t 87), some (86, false)⟩,
  ⟨some 89, .call false 6 [(.t 88), (ci 1), (ci 4)], some (86, false)⟩,
  ⟨some 90, .un .not (.t 89), some (86, false)⟩,
  oo 91 (.pick (.t 86) (.c (.bool true)) (.t 90)),
  oo 92 (.mv (.t 91)),
  ⟨some 93, .faddr 3 3 (.t 1), some (92, false)⟩,
  ⟨some 94, .load false 1 (.t 93), some (92, false)⟩,
  ⟨some 95, .call false 6 [(.t 94), (ci 0), (ci 999)], some (92, false)⟩,
  ⟨some 96, .un .not (.t 95), some (92, false)⟩,
  oo 97 (.pick (.t 92) (.c (.bool true)) (.t 96))])
 (.cond (.t 97) (.seq (rg [oo 2 (.mv (.c (.bool false)))])
 .ret) .skip))
 (.seq (rg [oo 98 (.faddr 2 2 (.t 1)),
  oo 99 (.load false 1 (.t 98)),
  oo 100 (.call false 6 [(.t 99), (ci 1), (ci 3)]),
  oo 101 (.mv (.t 100)),
  ⟨some 102, .faddr 4 4 (.t 1), some (101, true)⟩,
  ⟨some 103, .load false 1 (.t 102), some (101, true)⟩,
  ⟨some 104, .call false 6 [(.t 103), (ci 0), (ci 999)], some (101, true)⟩,
  oo 105 (.pick (.t 101) (.t 104) (.c (.bool false))),
  oo 106 (.mv (.t 105)),
  ⟨some 107, .faddr 5 5 (.t 1), some (106, true)⟩,
  ⟨some 108, .load false 1 (.t 107), some (106, true)⟩,
  ⟨some 109, .call false 6 [(.t 108), (ci 1), (ci 1000)], some (106, true)⟩,
  oo 110 (.pick (.t 106) (.t 109) (.c (.bool false))),
  oo 111 (.mv (.t 110)),
  ⟨some 112, .faddr 2 2 (.t 1), some (111, true)⟩,
  ⟨some 113, .load false 1 (.t 112), some (111, true)⟩,
  ⟨some 114, .bin .eql (.t 113) (ci 2), some (111, true)⟩,
  ⟨some 115, .faddr 6 6 (.t 1), some (111, true)⟩,
  ⟨some 116, .load false 1 (.t 115), some (111, true)⟩,
  ⟨some 117, .bin .gtr (.t 116) (ci 0), some (111, true)⟩,
  ⟨some 118, .eqv false 0 (.t 114) (.t 117), some (111, true)⟩,
  oo 119 (.pick (.t 111) (.t 118) (.c (.bool false))),
  oo 120 (.mv (.t 119)),
  ⟨some 121, .faddr 6 6 (.t 1), some (120, true)⟩,
  ⟨some 122, .load false 1 (.t 121), some (120, true)⟩,
  ⟨some 123, .call false 6 [(.t 122), (ci 0), (ci 999)], some (120, true)⟩,
  oo 124 (.pick (.t 120) (.t 123) (.c (.bool false))),
  oo 125 (.mv (.t 124)),
  ⟨some 126, .faddr 7 7 (.t 1), some (125, true)⟩,
  ⟨some 127, .load false 1 (.t 126), some (125, true)⟩,
  ⟨some 128, .len false (.t 127), some (125, true)⟩,
  ⟨some 129, .bin .leq (.t 128) (ci 60), some (125, true)⟩,
  oo 130 (.pick (.t 125) (.t 129) (.c (.bool false))),
  oo 2 (.mv (.t 130))])
 .ret))
def f101_r1 : AC :=
 (.seq (.seq (rg [oo 5 (.mv (ci 0))])
 (.block 2 (.loop ⟨[1, 5], [], [(1, false)]⟩ f101_b0)))
 f101_r0)
def f101_ac : AC :=
 (.seq (rg [oo 1 (.box false 1 (.t 0)),
  oo 2 (.mv (.c (.bool false)))])
 (.seq (.seq (rg [oo 3 (.mv (ci 0))])
 (.block 0 (.loop ⟨[1, 3], [], [(1, false)]⟩ f101_b1)))
 f101_r1))
noncomputable def f101_l1 (E : Env) (x3 : U) (b1 : U) : Option U := loopK (roundOf E ⟨[1, 3], [], [(1, false)]⟩ f101_b1 (blockK 0 (seqK (fun s => exec E f101_r1 s (finish [(2, none)])) (finish [(2, none)])))) ([.ptr 1 [], .val x3], [.box (.val b1)])
noncomputable def f101_l0 (E : Env) (x5 : U) (b1 : U) : Option U := loopK (roundOf E ⟨[1, 5], [], [(1, false)]⟩ f101_b0 (blockK 2 (seqK (fun s => exec E f101_r0 s (finish [(2, none)])) (finish [(2, none)])))) ([.ptr 1 [], .val x5], [.box (.val b1)])
theorem f101_l1_eq (E : Env) (x3 : U) (b1 : U) : f101_l1 E x3 b1 =
 U.asAgg b1 fun us2 => if 7 = sizes (us2.take 7) then (us2[7]?).bind fun e3 => U.asVar false 1 e3 fun e4 => (U.lenOf false e4).bind fun n5 => (U.bin .lss x3 (.int .i64 (n5 : Int))).bind fun t6 => U.asBool t6
 (U.asAgg b1 fun us7 => if 7 = sizes (us7.take 7) then (us7[7]?).bind fun e8 => U.asVar false 1 e8 fun e9 => U.asInt x3 fun n10 => U.elemAt 2 e9 n10 fun e11 => U.asVar true 2 e11 fun e12 => if storable (.val e12) = true ∧ e12.size = 2 then U.asAgg e12 fun us13 => if 0 = sizes (us13.take 0) then (us13[0]?).bind fun e14 => U.asVar false 1 e14 fun e15 => (E 6 [e15, (.int .i64 0), (.int .i64 5)]).bind fun t16 => (U.un .not t16).bind fun t17 => U.asBool t17
 (some (.bool false))
 (U.asAgg e12 fun us18 => if 1 = sizes (us18.take 1) then (us18[1]?).bind fun e19 => U.asVar false 1 e19 fun e20 => (E 6 [e20, (.int .i64 0), (.int .i64 999)]).bind fun t21 => (U.un .not t21).bind fun t22 => U.asBool t22
 (some (.bool false))
 ((U.bin .gtr x3 (.int .i64 0)).bind fun t23 => U.asBool t23
 (U.asAgg b1 fun us24 => if 7 = sizes (us24.take 7) then (us24[7]?).bind fun e25 => U.asVar false 1 e25 fun e26 => (U.bin .sub x3 (.int .i64 1)).bind fun t27 => U.asInt t27 fun n28 => U.elemAt 2 e26 n28 fun e29 => U.asVar true 2 e29 fun e30 => U.asVar true 2 e12 fun e31 => (E 71 [e30, e31]).bind fun t32 => (U.un .not t32).bind fun t33 => U.asBool t33
 (some (.bool false))
 ((U.bin .add x3 (.int .i64 1)).bind fun t34 => f101_l1 E t34 b1) else none)
 ((U.bin .add x3 (.int .i64 1)).bind fun t35 => f101_l1 E t35 b1)) else none) else none else none else none)
 (f101_l0 E (.int .i64 0) b1) else none := (loop_eq E _ _ _ _).trans (by kernel_rfl)
theorem f101_l0_eq (E : Env) (x5 : U) (b1 : U) : f101_l0 E x5 b1 =
 U.asAgg b1 fun us36 => if 8 = sizes (us36.take 8) then (us36[8]?).bind fun e37 => U.asVar false 1 e37 fun e38 => (U.lenOf false e38).bind fun n39 => (U.bin .lss x5 (.int .i64 (n39 : Int))).bind fun t40 => U.asBool t40
 (U.asAgg b1 fun us41 => if 8 = sizes (us41.take 8) then (us41[8]?).bind fun e42 => U.asVar false 1 e42 fun e43 => U.asInt x5 fun n44 => U.elemAt 2 e43 n44 fun e45 => U.asVar true 2 e45 fun e46 => if storable (.val e46) = true ∧ e46.size = 2 then U.asAgg e46 fun us47 => if 0 = sizes (us47.take 0) then (us47[0]?).bind fun e48 => U.asVar false 1 e48 fun e49 => (E 6 [e49, (.int .i64 0), (.int .i64 5)]).bind fun t50 => (U.un .not t50).bind fun t51 => U.asBool t51
 (some (.bool false))
 (U.asAgg e46 fun us52 => if 1 = sizes (us52.take 1) then (us52[1]?).bind fun e53 => U.asVar false 1 e53 fun e54 => (E 6 [e54, (.int .i64 (-1)), (.int .i64 99)]).bind fun t55 => (U.un .not t55).bind fun t56 => U.asBool t56
 (some (.bool false))
 ((U.bin .gtr x5 (.int .i64 0)).bind fun t57 => U.asBool t57
 (U.asAgg b1 fun us58 => if 8 = sizes (us58.take 8) then (us58[8]?).bind fun e59 => U.asVar false 1 e59 fun e60 => (U.bin .sub x5 (.int .i64 1)).bind fun t61 => U.asInt t61 fun n62 => U.elemAt 2 e60 n62 fun e63 => U.fieldAt 0 0 e63 fun f64 => U.asVar false 1 f64 fun e65 => U.asAgg e46 fun us66 => if 0 = sizes (us66.take 0) then (us66[0]?).bind fun e67 => U.asVar false 1 e67 fun e68 => (U.bin .geq e65 e68).bind fun t69 => U.asBool t69
 (some (.bool false))
 ((U.bin .add x5 (.int .i64 1)).bind fun t70 => f101_l0 E t70 b1) else none else none)
 ((U.bin .add x5 (.int .i64 1)).bind fun t71 => f101_l0 E t71 b1)) else none) else none else none else none)
 (U.asAgg b1 fun us72 => if 0 = sizes (us72.take 0) then (us72[0]?).bind fun e73 => U.asVar false 1 e73 fun e74 => (E 6 [e74, (.int .i64 1), (.int .i64 9)]).bind fun t75 => (U.un .not t75).bind fun t76 => U.asBool t76
 (some (.bool false))
 (U.asAgg b1 fun us77 => if 1 = sizes (us77.take 1) then (us77[1]?).bind fun e78 => U.asVar false 1 e78 fun e79 => (E 6 [e79, (.int .i64 1), (.int .i64 4)]).bind fun t80 => (U.un .not t80).bind fun t81 => U.asBool t81
 (some (.bool false))
 (U.asAgg b1 fun us82 => if 3 = sizes (us82.take 3) then (us82[3]?).bind fun e83 => U.asVar false 1 e83 fun e84 => (E 6 [e84, (.int .i64 0), (.int .i64 999)]).bind fun t85 => (U.un .not t85).bind fun t86 => U.asBool t86
 (some (.bool false))
 (U.asAgg b1 fun us87 => if 2 = sizes (us87.take 2) then (us87[2]?).bind fun e88 => U.asVar false 1 e88 fun e89 => (E 6 [e89, (.int .i64 1), (.int .i64 3)]).bind fun t90 => U.asBool t90
 (U.asAgg b1 fun us91 => if 4 = sizes (us91.take 4) then (us91[4]?).bind fun e92 => U.asVar false 1 e92 fun e93 => (E 6 [e93, (.int .i64 0), (.int .i64 999)]).bind fun t94 => U.asBool t94
 (U.asAgg b1 fun us95 => if 5 = sizes (us95.take 5) then (us95[5]?).bind fun e96 => U.asVar false 1 e96 fun e97 => (E 6 [e97, (.int .i64 1), (.int .i64 1000)]).bind fun t98 => U.asBool t98
 (U.asAgg b1 fun us99 => if 2 = sizes (us99.take 2) then (us99[2]?).bind fun e100 => U.asVar false 1 e100 fun e101 => (U.bin .eql e101 (.int .i64 2)).bind fun t102 => U.asAgg b1 fun us103 => if 6 = sizes (us103.take 6) then (us103[6]?).bind fun e104 => U.asVar false 1 e104 fun e105 => (U.bin .gtr e105 (.int .i64 0)).bind fun t106 => (U.eqv 0 t102 t106).bind fun q107 => U.asBool (.bool q107)
 (U.asAgg b1 fun us108 => if 6 = sizes (us108.take 6) then (us108[6]?).bind fun e109 => U.asVar false 1 e109 fun e110 => (E 6 [e110, (.int .i64 0), (.int .i64 999)]).bind fun t111 => U.asBool t111
 (U.asAgg b1 fun us112 => if 7 = sizes (us112.take 7) then (us112[7]?).bind fun e113 => U.asVar false 1 e113 fun e114 => (U.lenOf false e114).bind fun n115 => (U.bin .leq (.int .i64 (n115 : Int)) (.int .i64 60)).bind fun t116 => some t116 else none)
 (some (.bool false)) else none)
 (some (.bool false)) else none else none)
 (some (.bool false)) else none)
 (some (.bool false)) else none)
 (some (.bool false)) else none) else none) else none) else none) else none := (loop_eq E _ _ _ _).trans (by kernel_rfl)
structure G_f101 (E : Env) : Prop where
  is : Is E 70 1 f101_ac [(2, none)]
  c_f110 : G_f110 E
  c_f111 : G_f111 E
theorem f101_E {E : Env} (h : G_f101 E) (a0 : U) : E 70 [a0] =
 U.noTup a0 fun x1 => f101_l1 E (.int .i64 0) x1 := (h.is _ rfl).trans ((runQ_V rfl).trans (by kernel_rfl))
def f106_b1 : AC :=
 (.seq (.seq (rg [oo 13 (.mv (.t 6)),
  oo 14 (.mv (.t 0)),
  oo 15 (.mv (.t 5)),
  oo 16 (.iaddr 4 (.t 14) (.t 15)),
  oo 17 (.faddr 3 3 (.t 16)),
  oo 18 (.load false 1 (.t 17)),
  oo 19 (.len false (.t 18)),
  oo 20 (.bin .lss (.t 13) (.t 19))])
 (.cond (.t 20) .skip (.exit 2)))
 (.seq (.block 3 (.seq (.region 22 [oo 23 (.mv (.t 0)),
  oo 24 (.mv (.t 5)),
  oo 25 (.iaddr 4 (.t 23) (.t 24)),
  oo 26 (.faddr 1 1 (.t 25)),
  oo 27 (.load false 1 (.t 26)),
  oo 28 (.faddr 1 1 (.t 3)),
  oo 29 (.load false 1 (.t 28)),
  oo 30 (.bin .eql (.t 27) (.t 29)),
  oo 31 (.mv (.t 30)),
  ⟨some 32, .mv (.t 0), some (31, true)⟩,
  ⟨some 33, .mv (.t 5), some (31, true)⟩,
  ⟨some 34, .iaddr 4 (.t 32) (.t 33), some (31, true)⟩,
  ⟨some 35, .faddr 3 3 (.t 34), some (31, true)⟩,
  ⟨some 36, .load false 1 (.t 35), some (31, true)⟩,
  ⟨some 37, .mv (.t 6), some (31, true)⟩,
  ⟨some 38, .iaddr 2 (.t 36) (.t 37), some (31, true)⟩,
  ⟨some 39, .faddr 0 0 (.t 38), some (31, true)⟩,
  ⟨some 40, .load false 1 (.t 39), some (31, true)⟩,
  ⟨some 41, .faddr 0 0 (.t 3), some (31, true)⟩,
  ⟨some 42, .load false 1 (.t 41), some (31, true)⟩,
  ⟨some 43, .bin .eql (.t 40) (.t 42), some (31, true)⟩,
  oo 44 (.pick (.t 31) (.t 43) (.c (.bool false)))])
 (.cond (.t 44) (.seq (rg [oo 45 (.mv (.t 0)),
  oo 46 (.mv (.t 5)),
  oo 47 (.iaddr 4 (.t 45) (.t 46)),
  oo 48 (.faddr 0 0 (.t 47)),
  oo 49 (.load false 1 (.t 48)),
  oo 4 (.mv (.t 49))])
 .ret) .skip)))
 (rg [oo 21 (.mv (.t 6)),
  oo 22 (.bin .add (.t 21) (ci 1)),
  oo 6 (.mv (.t 22))])))
def f106_r0 : AC :=
 (rg [oo 11 (.mv (.t 5)),
  oo 12 (.bin .add (.t 11) (ci 1)),
  oo 5 (.mv (.t 12))])
def f106_b0 : AC :=
 (.seq (.seq (rg [oo 7 (.mv (.t 5)),
  oo 8 (.mv (.t 0)),
  oo 9 (.len false (.t 8)),
  oo 10 (.bin .lss (.t 7) (.t 9))])
 (.cond (.t 10) .skip (.exit 0)))
 (.seq (.block 1 (.seq (rg [oo 6 (.mv (ci 0))])
 (.block 2 (.loop ⟨[0, 3, 5, 6], [], [(3, false)]⟩ f106_b1))))
 f106_r0))
def f106_r1 : AC :=
 (.seq (rg [oo 4 (.mv (ci 0))])
 .ret)
def f106_ac : AC :=
 (.seq (rg [oo 3 (.box false 3 (.t 1)),
  oo 4 (.mv (ci 0))])
 (.seq (.seq (rg [oo 5 (.mv (ci 0))])
 (.block 0 (.loop ⟨[0, 3, 5], [], [(3, false)]⟩ f106_b0)))
 f106_r1))
noncomputable def f106_l0 (E : Env) (x0 : U) (x5 : U) (b3 : U) : Option U := loopK (roundOf E ⟨[0, 3, 5], [], [(3, false)]⟩ f106_b0 (blockK 0 (seqK (fun s => exec E f106_r1 s (finish [(4, none)])) (finish [(4, none)])))) ([.val x0, .ptr 3 [], .val x5], [.box (.val b3)])
noncomputable def f106_l1 (E : Env) (x0 : U) (x5 : U) (x6 : U) (b3 : U) : Option U := loopK (roundOf E ⟨[0, 3, 5, 6], [], [(3, false)]⟩ f106_b1 (blockK 2 (blockK 1 (seqK (fun s => exec E f106_r0 s (roundK ⟨[0, 3, 5], [], [(3, false)]⟩ (loopK (roundOf E ⟨[0, 3, 5], [], [(3, false)]⟩ f106_b0 (blockK 0 (seqK (fun s => exec E f106_r1 s (finish [(4, none)])) (finish [(4, none)]))))) (blockK 0 (seqK (fun s => exec E f106_r1 s (finish [(4, none)])) (finish [(4, none)]))))) (roundK ⟨[0, 3, 5], [], [(3, false)]⟩ (loopK (roundOf E ⟨[0, 3, 5], [], [(3, false)]⟩ f106_b0 (blockK 0 (seqK (fun s => exec E f106_r1 s (finish [(4, none)])) (finish [(4, none)]))))) (blockK 0 (seqK (fun s => exec E f106_r1 s (finish [(4, none)])) (finish [(4, none)])))))))) ([.val x0, .ptr 3 [], .val x5, .val x6], [.box (.val b3)])
theorem f106_l0_eq (E : Env) (x0 : U) (x5 : U) (b3 : U) : f106_l0 E x0 x5 b3 =
 (U.lenOf false x0).bind fun n2 => (U.bin .lss x5 (.int .i64 (n2 : Int))).bind fun t3 => U.asBool t3
 (f106_l1 E x0 x5 (.int .i64 0) b3)
 (some (.int .i64 0)) := (loop_eq E _ _ _ _).trans (by kernel_rfl)
theorem f106_l1_eq (E : Env) (x0 : U) (x5 : U) (x6 : U) (b3 : U) : f106_l1 E x0 x5 x6 b3 =
 U.asInt x5 fun n4 => U.elemAt 4 x0 n4 fun e5 => U.fieldAt 3 3 e5 fun f6 => U.asVar false 1 f6 fun e7 => (U.lenOf false e7).bind fun n8 => (U.bin .lss x6 (.int .i64 (n8 : Int))).bind fun t9 => U.asBool t9
 (U.asInt x5 fun n10 => U.elemAt 4 x0 n10 fun e11 => U.fieldAt 1 1 e11 fun f12 => U.asVar false 1 f12 fun e13 => U.asAgg b3 fun us14 => if 1 = sizes (us14.take 1) then (us14[1]?).bind fun e15 => U.asVar false 1 e15 fun e16 => (U.bin .eql e13 e16).bind fun t17 => U.asBool t17
 (U.asInt x5 fun n18 => U.elemAt 4 x0 n18 fun e19 => U.fieldAt 3 3 e19 fun f20 => U.asVar false 1 f20 fun e21 => U.asInt x6 fun n22 => U.elemAt 2 e21 n22 fun e23 => U.fieldAt 0 0 e23 fun f24 => U.asVar false 1 f24 fun e25 => U.asAgg b3 fun us26 => if 0 = sizes (us26.take 0) then (us26[0]?).bind fun e27 => U.asVar false 1 e27 fun e28 => (U.bin .eql e25 e28).bind fun t29 => U.asBool t29
 (U.asInt x5 fun n30 => U.elemAt 4 x0 n30 fun e31 => U.fieldAt 0 0 e31 fun f32 => U.asVar false 1 f32 fun e33 => some e33)
 ((U.bin .add x6 (.int .i64 1)).bind fun t34 => f106_l1 E x0 x5 t34 b3) else none)
 ((U.bin .add x6 (.int .i64 1)).bind fun t35 => f106_l1 E x0 x5 t35 b3) else none)
 ((U.bin .add x5 (.int .i64 1)).bind fun t36 => f106_l0 E x0 t36 b3) := (loop_eq E _ _ _ _).trans (by kernel_rfl)
structure G_f106 (E : Env) : Prop where
  is : Is E 244 2 f106_ac [(4, none)]
theorem f106_E {E : Env} (h : G_f106 E) (a0 a1 : U) : E 244 [a0, a1] =
 U.noTup a1 fun x1 => f106_l0 E a0 (.int .i64 0) x1 := (h.is _ rfl).trans ((runQ_V rfl).trans (by kernel_rfl))
def f109_ac : AC :=
 (.seq (rg [oo 1 (.box false 1 (.t 0)),
  oo 2 (.alloc 2 (.agg [(.int .i64 0), (.int .i64 0), (.int .i64 0), (.int .i64 0), (.int .i64 0), (.int .i64 0), (.int .i64 0), (.nsl 2), (.nsl 2)]))])
 (.seq (rg [oo 3 (.faddr 0 0 (.t 1)),
  oo 4 (.load false 1 (.t 3)),
  oo 5 (.faddr 1 1 (.t 1)),
  oo 6 (.load false 1 (.t 5)),
  oo 7 (.faddr 2 2 (.t 1)),
  oo 8 (.load false 1 (.t 7)),
  oo 9 (.faddr 3 3 (.t 1)),
  oo 10 (.load false 1 (.t 9)),
  oo 11 (.build [(.int .i64 0), (.int .i64 0), (.int .i64 0), (.int .i64 0), (.int .i64 0), (.int .i64 0), (.int .i64 0), (.nsl 2), (.nsl 2)] [(0, (.t 4)), (1, (ci 1)), (2, (ci 2)), (6, (.t 6)), (5, (ci 1000)), (7, (.t 8)), (8, (.t 10))]),
  ⟨none, .store 9 (.t 2) (.t 11), none⟩])
 .ret))
structure G_f109 (E : Env) : Prop where
  is : Is E 245 1 f109_ac [(2, some (true, 9))]
theorem f109_E {E : Env} (h : G_f109 E) (a0 : U) : E 245 [a0] =
 U.noTup a0 fun x1 => U.asAgg x1 fun us2 => if 0 = sizes (us2.take 0) then (us2[0]?).bind fun e3 => U.asVar false 1 e3 fun e4 => U.asAgg x1 fun us5 => if 1 = sizes (us5.take 1) then (us5[1]?).bind fun e6 => U.asVar false 1 e6 fun e7 => U.asAgg x1 fun us8 => if 2 = sizes (us8.take 2) then (us8[2]?).bind fun e9 => U.asVar false 1 e9 fun e10 => U.asAgg x1 fun us11 => if 3 = sizes (us11.take 3) then (us11[3]?).bind fun e12 => U.asVar false 1 e12 fun e13 => if partable (.val e4) = true ∧ e4.size = 1 then if partable (.val e7) = true ∧ e7.size = 1 then if partable (.val e10) = true ∧ e10.size = 1 then if partable (.val e13) = true ∧ e13.size = 1 then if storable (.val (.agg [e4, (.int .i64 1), (.int .i64 2), (.int .i64 0), (.int .i64 0), (.int .i64 1000), e7, e10, e13])) = true ∧ ((.agg [e4, (.int .i64 1), (.int .i64 2), (.int .i64 0), (.int .i64 0), (.int .i64 1000), e7, e10, e13]) : U).size = 9 then U.asVar true 9 (.agg [e4, (.int .i64 1), (.int .i64 2), (.int .i64 0), (.int .i64 0), (.int .i64 1000), e7, e10, e13]) fun e14 => some e14 else none else none else none else none else none else none else none else none else none := (h.is _ rfl).trans ((runQ_V rfl).trans (by kernel_rfl))
def f97_b2 : AC :=
 (.seq (.seq (rg [oo 7 (.mv (.t 3)),
  oo 8 (.mv (.t 0)),
  oo 9 (.len false (.t 8)),
  oo 10 (.bin .lss (.t 7) (.t 9))])
 (.cond (.t 10) .skip (.exit 0)))
 (.seq (.block 1 (.seq (.seq (.region 19 [oo 13 (.mv (.t 0)),
  oo 14 (.mv (.t 3)),
  oo 15 (.iaddr 4 (.t 13) (.t 14)),
  oo 16 (.load true 4 (.t 15)),
  oo 17 (.call false 245 [(.t 16)]),
  oo 18 (.call false 70 [(.t 17)]),
  oo 19 (.un .not (.t 18)),
  oo 20 (.mv (.t 19)),
  ⟨some 21, .mv (.t 0), some (20, false)⟩,
  ⟨some 22, .mv (.t 3), some (20, false)⟩,
  ⟨some 23, .slice false 4 (.t 21) none (some (.t 22)), some (20, false)⟩,
  ⟨some 24, .mv (.t 0), some (20, false)⟩,
  ⟨some 25, .mv (.t 3), some (20, false)⟩,
  ⟨some 26, .iaddr 4 (.t 24) (.t 25), some (20, false)⟩,
  ⟨some 27, .faddr 0 0 (.t 26), some (20, false)⟩,
  ⟨some 28, .load false 1 (.t 27), some (20, false)⟩,
  ⟨some 29, .call false 241 [(.t 23), (.t 28)], some (20, false)⟩,
  ⟨some 30, .bin .geq (.t 29) (ci 0), some (20, false)⟩,
  oo 31 (.pick (.t 20) (.c (.bool true)) (.t 30))])
 (.cond (.t 31) (.seq (rg [oo 2 (.mv (.c (.bool false)))])
 .ret) .skip))
 (.seq (.region 39 [oo 32 (.mv (.t 3)),
  oo 33 (.bin .gtr (.t 32) (ci 0)),
  oo 34 (.mv (.t 33)),
  ⟨some 35, .mv (.t 0), some (34, true)⟩,
  ⟨some 36, .mv (.t 3), some (34, true)⟩,
  ⟨some 37, .bin .sub (.t 36) (ci 1), some (34, true)⟩,
  ⟨some 38, .iaddr 4 (.t 35) (.t 37), some (34, true)⟩,
  ⟨some 39, .faddr 1 1 (.t 38), some (34, true)⟩,
  ⟨some 40, .load false 1 (.t 39), some (34, true)⟩,
  ⟨some 41, .mv (.t 0), some (34, true)⟩,
  ⟨some 42, .mv (.t 3), some (34, true)⟩,
  ⟨some 43, .iaddr 4 (.t 41) (.t 42), some (34, true)⟩,
  ⟨some 44, .faddr 1 1 (.t 43), some (34, true)⟩,
  ⟨some 45, .load false 1 (.t 44), some (34, true)⟩,
  ⟨some 46, .bin .gtr (.t 40) (.t 45), some (34, true)⟩,
  ⟨some 47, .mv (.t 46), some (34, true)⟩,
  ⟨some 48, .mv (.t 0), some (47, false)⟩,
  ⟨some 49, .mv (.t 3), some (47, false)⟩,
  ⟨some 50, .bin .sub (.t 49) (ci 1), some (47, false)⟩,
  ⟨some 51, .iaddr 4 (.t 48) (.t 50), some (47, false)⟩,
  ⟨some 52, .faddr 1 1 (.t 51), some (47, false)⟩,
  ⟨some 53, .load false 1 (.t 52), some (47, false)⟩,
  ⟨some 54, .mv (.t 0), some (47, false)⟩,
  ⟨some 55, .mv (.t 3), some (47, false)⟩,
  ⟨some 56, .iaddr 4 (.t 54) (.t 55), some (47, false)⟩,
  ⟨some 57, .faddr 1 1 (.t 56), some (47, false)⟩,
  ⟨some 58, .load false 1 (.t 57), some (47, false)⟩,
  ⟨some 59, .bin .eql (.t 53) (.t 58), some (47, false)⟩,
  ⟨some 60, .mv (.t 59), some (47, false)⟩,
  ⟨some 61, .mv (.t 0), some (60, true)⟩,
  ⟨some 62, .mv (.t 3), some (60, true)⟩,
  ⟨some 63, .iaddr 4 (.t 61) (.t 62), some (60, true)⟩,
  ⟨some 64, .faddr 3 3 (.t 63), some (60, true)⟩,
  ⟨some 65, .load false 1 (.t 64), some (60, true)⟩,
  ⟨some 66, .len false (.t 65), some (60, true)⟩,
  ⟨some 67, .bin .gtr (.t 66) (ci 0), some (60, true)⟩,
  ⟨some 68, .pick (.t 60) (.t 67) (.c (.bool false)), some (47, false)⟩,
  ⟨some 69, .pick (.t 47) (.c (.bool true)) (.t 68), some (34, true)⟩,
  oo 70 (.pick (.t 34) (.t 69) (.c (.bool false)))])
 (.cond (.t 70) (.seq (rg [oo 2 (.mv (.c (.bool false)))])
 .ret) .skip))))
 (rg [oo 11 (.mv (.t 3)),
  oo 12 (.bin .add (.t 11) (ci 1)),
  oo 3 (.mv (.t 12))])))
def f97_b1 : AC :=
 (.seq (.seq (rg [oo 77 (.mv (.t 5)),
  oo 78 (.mv (.t 0)),
  oo 79 (.mv (.t 4)),
  oo 80 (.iaddr 4 (.t 78) (.t 79)),
  oo 81 (.faddr 2 2 (.t 80)),
  oo 82 (.load false 1 (.t 81)),
  oo 83 (.len false (.t 82)),
  oo 84 (.bin .lss (.t 77) (.t 83))])
 (.cond (.t 84) .skip (.exit 4)))
 (.seq (.block 5 (.seq (rg [oo 87 (.mv (.t 0)),
  oo 88 (.mv (.t 0)),
  oo 89 (.mv (.t 4)),
  oo 90 (.iaddr 4 (.t 88) (.t 89)),
  oo 91 (.faddr 2 2 (.t 90)),
  oo 92 (.load false 1 (.t 91)),
  oo 93 (.mv (.t 5)),
  oo 94 (.iaddr 2 (.t 92) (.t 93)),
  oo 95 (.load true 2 (.t 94)),
  oo 96 (.call false 244 [(.t 87), (.t 95)]),
  oo 6 (.mv (.t 96))])
 (.seq (rg [oo 97 (.mv (.t 6)),
  oo 98 (.mv (.t 0)),
  oo 99 (.mv (.t 4)),
  oo 100 (.iaddr 4 (.t 98) (.t 99)),
  oo 101 (.faddr 0 0 (.t 100)),
  oo 102 (.load false 1 (.t 101)),
  oo 103 (.bin .eql (.t 97) (.t 102)),
  oo 104 (.mv (.t 103)),
  ⟨some 105, .mv (.t 0), some (104, false)⟩,
  ⟨some 106, .mv (.t 4), some (104, false)⟩,
  ⟨some 107, .iaddr 4 (.t 105) (.t 106), some (104, false)⟩,
  ⟨some 108, .faddr 2 2 (.t 107), some (104, false)⟩,
  ⟨some 109, .load false 1 (.t 108), some (104, false)⟩,
  ⟨some 110, .mv (.t 5), some (104, false)⟩,
  ⟨some 111, .iaddr 2 (.t 109) (.t 110), some (104, false)⟩,
  ⟨some 112, .faddr 1 1 (.t 111), some (104, false)⟩,
  ⟨some 113, .load false 1 (.t 112), some (104, false)⟩,
  ⟨some 114, .bin .gtr (.t 113) (ci 0), some (104, false)⟩,
  ⟨some 115, .mv (.t 114), some (104, false)⟩,
  ⟨some 116, .mv (.t 6), some (115, true)⟩,
  ⟨some 117, .bin .eql (.t 116) (ci 0), some (115, true)⟩,
  ⟨some 118, .pick (.t 115) (.t 117) (.c (.bool false)), some (104, false)⟩,
  oo 119 (.pick (.t 104) (.c (.bool true)) (.t 118))])
 (.cond (.t 119) (.seq (rg [oo 2 (.mv (.c (.bool false)))])
 .ret) .skip))))
 (rg [oo 85 (.mv (.t 5)),
  oo 86 (.bin .add (.t 85) (ci 1)),
  oo 5 (.mv (.t 86))])))
def f97_r0 : AC :=
 (rg [oo 75 (.mv (.t 4)),
  oo 76 (.bin .add (.t 75) (ci 1)),
  oo 4 (.mv (.t 76))])
def f97_b0 : AC :=
 (.seq (.seq (rg [oo 71 (.mv (.t 4)),
  oo 72 (.mv (.t 0)),
  oo 73 (.len false (.t 72)),
  oo 74 (.bin .lss (.t 71) (.t 73))])
 (.cond (.t 74) .skip (.exit 2)))
 (.seq (.block 3 (.seq (rg [oo 5 (.mv (ci 0))])
 (.block 4 (.loop ⟨[0, 4, 5], [], []⟩ f97_b1))))
 f97_r0))
def f97_r1 : AC :=
 (.seq (rg [oo 120 (.mv (.t 0)),
  oo 121 (.len false (.t 120)),
  oo 122 (.bin .leq (.t 121) (ci 9)),
  oo 2 (.mv (.t 122))])
 .ret)
def f97_r2 : AC :=
 (.seq (.seq (rg [oo 4 (.mv (ci 0))])
 (.block 2 (.loop ⟨[0, 4], [], []⟩ f97_b0)))
 f97_r1)
def f97_ac : AC :=
 (.seq (rg [oo 2 (.mv (.c (.bool false)))])
 (.seq (.seq (rg [oo 3 (.mv (ci 0))])
 (.block 0 (.loop ⟨[0, 3], [], []⟩ f97_b2)))
 f97_r2))
noncomputable def f97_l2 (E : Env) (x0 : U) (x3 : U) : Option U := loopK (roundOf E ⟨[0, 3], [], []⟩ f97_b2 (blockK 0 (seqK (fun s => exec E f97_r2 s (finish [(2, none)])) (finish [(2, none)])))) ([.val x0, .val x3], [])
noncomputable def f97_l0 (E : Env) (x0 : U) (x4 : U) : Option U := loopK (roundOf E ⟨[0, 4], [], []⟩ f97_b0 (blockK 2 (seqK (fun s => exec E f97_r1 s (finish [(2, none)])) (finish [(2, none)])))) ([.val x0, .val x4], [])
noncomputable def f97_l1 (E : Env) (x0 : U) (x4 : U) (x5 : U) : Option U := loopK (roundOf E ⟨[0, 4, 5], [], []⟩ f97_b1 (blockK 4 (blockK 3 (seqK (fun s => exec E f97_r0 s (roundK ⟨[0, 4], [], []⟩ (loopK (roundOf E ⟨[0, 4], [], []⟩ f97_b0 (blockK 2 (seqK (fun s => exec E f97_r1 s (finish [(2, none)])) (finish [(2, none)]))))) (blockK 2 (seqK (fun s => exec E f97_r1 s (finish [(2, none)])) (finish [(2, none)]))))) (roundK ⟨[0, 4], [], []⟩ (loopK (roundOf E ⟨[0, 4], [], []⟩ f97_b0 (blockK 2 (seqK (fun s => exec E f97_r1 s (finish [(2, none)])) (finish [(2, none)]))))) (blockK 2 (seqK (fun s => exec E f97_r1 s (finish [(2, none)])) (finish [(2, none)])))))))) ([.val x0, .val x4, .val x5], [])
theorem f97_l2_eq (E : Env) (x0 : U) (x3 : U) : f97_l2 E x0 x3 =
 (U.lenOf false x0).bind fun n1 => (U.bin .lss x3 (.int .i64 (n1 : Int))).bind fun t2 => U.asBool t2
 (U.asInt x3 fun n3 => U.elemAt 4 x0 n3 fun e4 => U.asVar true 4 e4 fun e5 => (E 245 [e5]).bind fun t6 => (E 70 [t6]).bind fun t7 => (U.un .not t7).bind fun t8 => U.asBool t8
 (some (.bool false))
 (U.asInt x3 fun n9 => (U.cut false 4 x0 none (some n9)).bind fun t10 => U.asInt x3 fun n11 => U.elemAt 4 x0 n11 fun e12 => U.fieldAt 0 0 e12 fun f13 => U.asVar false 1 f13 fun e14 => (E 241 [t10, e14]).bind fun t15 => (U.bin .geq t15 (.int .i64 0)).bind fun t16 => U.asBool t16
 (some (.bool false))
 ((U.bin .gtr x3 (.int .i64 0)).bind fun t17 => U.asBool t17
 ((U.bin .sub x3 (.int .i64 1)).bind fun t18 => U.asInt t18 fun n19 => U.elemAt 4 x0 n19 fun e20 => U.fieldAt 1 1 e20 fun f21 => U.asVar false 1 f21 fun e22 => U.asInt x3 fun n23 => U.elemAt 4 x0 n23 fun e24 => U.fieldAt 1 1 e24 fun f25 => U.asVar false 1 f25 fun e26 => (U.bin .gtr e22 e26).bind fun t27 => U.asBool t27
 (some (.bool false))
 ((U.bin .sub x3 (.int .i64 1)).bind fun t28 => U.asInt t28 fun n29 => U.elemAt 4 x0 n29 fun e30 => U.fieldAt 1 1 e30 fun f31 => U.asVar false 1 f31 fun e32 => U.asInt x3 fun n33 => U.elemAt 4 x0 n33 fun e34 => U.fieldAt 1 1 e34 fun f35 => U.asVar false 1 f35 fun e36 => (U.bin .eql e32 e36).bind fun t37 => U.asBool t37
 (U.asInt x3 fun n38 => U.elemAt 4 x0 n38 fun e39 => U.fieldAt 3 3 e39 fun f40 => U.asVar false 1 f40 fun e41 => (U.lenOf false e41).bind fun n42 => (U.bin .gtr (.int .i64 (n42 : Int)) (.int .i64 0)).bind fun t43 => U.asBool t43
 (some (.bool false))
 ((U.bin .add x3 (.int .i64 1)).bind fun t44 => f97_l2 E x0 t44))
 ((U.bin .add x3 (.int .i64 1)).bind fun t45 => f97_l2 E x0 t45)))
 ((U.bin .add x3 (.int .i64 1)).bind fun t46 => f97_l2 E x0 t46))))
 (f97_l0 E x0 (.int .i64 0)) := (loop_eq E _ _ _ _).trans (by kernel_rfl)
theorem f97_l0_eq (E : Env) (x0 : U) (x4 : U) : f97_l0 E x0 x4 =
 (U.lenOf false x0).bind fun n47 => (U.bin .lss x4 (.int .i64 (n47 : Int))).bind fun t48 => U.asBool t48
 (f97_l1 E x0 x4 (.int .i64 0))
 ((U.lenOf false x0).bind fun n49 => (U.bin .leq (.int .i64 (n49 : Int)) (.int .i64 9)).bind fun t50 => some t50) := (loop_eq E _ _ _ _).trans (by kernel_rfl)
theorem f97_l1_eq (E : Env) (x0 : U) (x4 : U) (x5 : U) : f97_l1 E x0 x4 x5 =
 U.asInt x4 fun n51 => U.elemAt 4 x0 n51 fun e52 => U.fieldAt 2 2 e52 fun f53 => U.asVar false 1 f53 fun e54 => (U.lenOf false e54).bind fun n55 => (U.bin .lss x5 (.int .i64 (n55 : Int))).bind fun t56 => U.asBool t56
 (U.asInt x4 fun n57 => U.elemAt 4 x0 n57 fun e58 => U.fieldAt 2 2 e58 fun f59 => U.asVar false 1 f59 fun e60 => U.asInt x5 fun n61 => U.elemAt 2 e60 n61 fun e62 => U.asVar true 2 e62 fun e63 => (E 244 [x0, e63]).bind fun t64 => U.asInt x4 fun n65 => U.elemAt 4 x0 n65 fun e66 => U.fieldAt 0 0 e66 fun f67 => U.asVar false 1 f67 fun e68 => (U.bin .eql t64 e68).bind fun t69 => U.asBool t69
 (some (.bool false))
 (U.asInt x4 fun n70 => U.elemAt 4 x0 n70 fun e71 => U.fieldAt 2 2 e71 fun f72 => U.asVar false 1 f72 fun e73 => U.asInt x5 fun n74 => U.elemAt 2 e73 n74 fun e75 => U.fieldAt 1 1 e75 fun f76 => U.asVar false 1 f76 fun e77 => (U.bin .gtr e77 (.int .i64 0)).bind fun t78 => U.asBool t78
 ((U.bin .eql t64 (.int .i64 0)).bind fun t79 => U.asBool t79
 (some (.bool false))
 ((U.bin .add x5 (.int .i64 1)).bind fun t80 => f97_l1 E x0 x4 t80))
 ((U.bin .add x5 (.int .i64 1)).bind fun t81 => f97_l1 E x0 x4 t81)))
 ((U.bin .add x4 (.int .i64 1)).bind fun t82 => f97_l0 E x0 t82) := (loop_eq E _ _ _ _).trans (by kernel_rfl)
structure G_f97 (E : Env) : Prop where
  is : Is E 243 1 f97_ac [(2, none)]
  c_f93 : G_f93 E
  c_f101 : G_f101 E
  c_f106 : G_f106 E
  c_f109 : G_f109 E
theorem f97_E {E : Env} (h : G_f97 E) (a0 : U) : E 243 [a0] =
 f97_l2 E a0 (.int .i64 0) := (h.is _ rfl).trans ((runQ_V rfl).trans (by kernel_rfl))
def f90_b1 : AC :=
 (.seq (.seq (rg [oo 12 (.mv (.t 8)),
  oo 13 (.mv (.t 0)),
  oo 14 (.len false (.t 13)),
  oo 15 (.bin .lss (.t 12) (.t 14))])
 (.cond (.t 15) .skip (.exit 0)))
 (.seq (.block 1 (.seq (.seq (.region 12 [oo 18 (.mv (.t 7)),
  oo 19 (.un .not (.t 18)),
  oo 20 (.mv (.t 19)),
  ⟨some 21, .mv (.t 0), some (20, true)⟩,
  ⟨some 22, .mv (.t 8), some (20, true)⟩,
  ⟨some 23, .iaddr 4 (.t 21) (.t 22), some (20, true)⟩,
  ⟨some 24, .faddr 1 1 (.t 23), some (20, true)⟩,
  ⟨some 25, .load false 1 (.t 24), some (20, true)⟩,
  ⟨some 26, .faddr 1 1 (.t 3), some (20, true)⟩,
  ⟨some 27, .load false 1 (.t 26), some (20, true)⟩,
  ⟨some 28, .bin .gtr (.t 25) (.t 27), some (20, true)⟩,
  oo 29 (.pick (.t 20) (.t 28) (.c (.bool false)))])
 (.cond (.t 29) (.seq (rg [oo 30 (.mv (.t 6)),
  oo 31 (.load true 4 (.t 3)),
  oo 32 (.call false 290 [(.t 31)]),
  oo 33 (.bslice 0 33 4 1 (.agg [(.int .i64 0), (.int .i64 0), (.nsl 2), (.nsl 2)]) [(0, (.t 32))]),
  oo 34 (.append false 34 4 64 (.t 30) (.t 33)),
  oo 6 (.mv (.t 34))])
 (rg [oo 7 (.mv (.c (.bool true)))])) .skip))
 (rg [oo 35 (.mv (.t 6)),
  oo 36 (.mv (.t 0)),
  oo 37 (.mv (.t 8)),
  oo 38 (.iaddr 4 (.t 36) (.t 37)),
  oo 39 (.load true 4 (.t 38)),
  oo 40 (.call false 290 [(.t 39)]),
  oo 41 (.bslice 0 41 4 1 (.agg [(.int .i64 0), (.int .i64 0), (.nsl 2), (.nsl 2)]) [(0, (.t 40))]),
  oo 42 (.append false 42 4 64 (.t 35) (.t 41)),
  oo 6 (.mv (.t 42))])))
 (rg [oo 16 (.mv (.t 8)),
  oo 17 (.bin .add (.t 16) (ci 1)),
  oo 8 (.mv (.t 17))])))
def f90_b0 : AC :=
 (.seq (.seq (rg [oo 65 (.mv (.t 10)),
  oo 66 (.mv (.t 0)),
  oo 67 (.len false (.t 66)),
  oo 68 (.bin .lss (.t 65) (.t 67))])
 (.cond (.t 68) .skip (.exit 2)))
 (.seq (.block 3 (rg [oo 71 (.mv (.t 9)),
  oo 72 (.mv (.t 0)),
  oo 73 (.mv (.t 10)),
  oo 74 (.iaddr 4 (.t 72) (.t 73)),
  oo 75 (.load true 4 (.t 74)),
  oo 76 (.call false 290 [(.t 75)]),
  oo 77 (.bslice 0 77 4 1 (.agg [(.int .i64 0), (.int .i64 0), (.nsl 2), (.nsl 2)]) [(0, (.t 76))]),
  oo 78 (.append false 78 4 64 (.t 71) (.t 77)),
  oo 9 (.mv (.t 78))]))
 (rg [oo 69 (.mv (.t 10)),
  oo 70 (.bin .add (.t 69) (ci 1)),
  oo 10 (.mv (.t 70))])))
def f90_r0 : AC :=
 (.seq (rg [oo 79 (.mv (.t 9)),
  oo 4 (.mv (.t 79)),
  oo 5 (.mv (.c (.bool false)))])
 .ret)
def f90_r1 : AC :=
 (.seq (rg [oo 80 (.mv (.t 6)),
  oo 4 (.mv (.t 80)),
  oo 5 (.mv (.c (.bool true)))])
 .ret)
def f90_r2 : AC :=
 (.seq (.seq (rg [oo 43 (.mv (.t 7)),
  oo 44 (.un .not (.t 43))])
 (.cond (.t 44) (rg [oo 45 (.mv (.t 6)),
  oo 46 (.load true 4 (.t 3)),
  oo 47 (.call false 290 [(.t 46)]),
  oo 48 (.bslice 0 48 4 1 (.agg [(.int .i64 0), (.int .i64 0), (.nsl 2), (.nsl 2)]) [(0, (.t 47))]),
  oo 49 (.append false 49 4 64 (.t 45) (.t 48)),
  oo 6 (.mv (.t 49))]) .skip))
 (.seq (.seq (rg [oo 50 (.mv (.t 0)),
  oo 51 (.call false 243 [(.t 50)]),
  oo 52 (.un .not (.t 51)),
  oo 53 (.mv (.t 52)),
  ⟨some 54, .faddr 3 3 (.t 3), some (53, false)⟩,
  ⟨some 55, .load false 1 (.t 54), some (53, false)⟩,
  ⟨some 56, .len false (.t 55), some (53, false)⟩,
  ⟨some 57, .bin .gtr (.t 56) (ci 0), some (53, false)⟩,
  oo 58 (.pick (.t 53) (.c (.bool true)) (.t 57)),
  oo 59 (.mv (.t 58)),
  ⟨some 60, .mv (.t 6), some (59, false)⟩,
  ⟨some 61, .call false 243 [(.t 60)], some (59, false)⟩,
  ⟨some 62, .un .not (.t 61), some (59, false)⟩,
  oo 63 (.pick (.t 59) (.c (.bool true)) (.t 62))])
 (.cond (.t 63) (.seq (rg [oo 64 (.bslice 1 64 4 0 (.agg [(.int .i64 0), (.int .i64 0), (.nsl 2), (.nsl 2)]) []),
  oo 9 (.mv (.t 64))])
 (.seq (.seq (rg [oo 10 (.mv (ci 0))])
 (.block 2 (.loop ⟨[0, 10], [(9, 4, false)], []⟩ f90_b0)))
 f90_r0)) .skip))
 f90_r1))
def f90_ac : AC :=
 (.seq (rg [oo 3 (.box false 3 (.t 1)),
  oo 4 (.mv (.c (.nsl 4))),
  oo 5 (.mv (.c (.bool false)))])
 (.seq (rg [oo 11 (.bslice 1 11 4 0 (.agg [(.int .i64 0), (.int .i64 0), (.nsl 2), (.nsl 2)]) []),
  oo 6 (.mv (.t 11))])
 (.seq (rg [oo 7 (.mv (.c (.bool false)))])
 (.seq (.seq (rg [oo 8 (.mv (ci 0))])
 (.block 0 (.loop ⟨[0, 3, 7, 8], [(6, 4, false)], [(3, false)]⟩ f90_b1)))
 f90_r2))))
noncomputable def f90_l1 (E : Env) (x0 : U) (x7 : U) (x8 : U) (c6 : List U) (b3 : U) : Option U := loopK (roundOf E ⟨[0, 3, 7, 8], [(6, 4, false)], [(3, false)]⟩ f90_b1 (blockK 0 (seqK (fun s => exec E f90_r2 s (finish [(4, none), (5, none)])) (finish [(4, none), (5, none)])))) ([.val x0, .ptr 3 [], .val x7, .val x8], [.vir (.asl 4 c6), .box (.val b3)])
noncomputable def f90_l0 (E : Env) (x0 : U) (x10 : U) (c9 : List U) : Option U := loopK (roundOf E ⟨[0, 10], [(9, 4, false)], []⟩ f90_b0 (blockK 2 (seqK (fun s => exec E f90_r0 s (seqK (fun s => exec E f90_r1 s (finish [(4, none), (5, none)])) (finish [(4, none), (5, none)]))) (seqK (fun s => exec E f90_r1 s (finish [(4, none), (5, none)])) (finish [(4, none), (5, none)]))))) ([.val x0, .val x10], [.vir (.asl 4 c9)])
theorem f90_l1_eq (E : Env) (x0 : U) (x7 : U) (x8 : U) (c6 : List U) (b3 : U) : f90_l1 E x0 x7 x8 c6 b3 =
 (U.lenOf false x0).bind fun n2 => (U.bin .lss x8 (.int .i64 (n2 : Int))).bind fun t3 => U.asBool t3
 ((U.un .not x7).bind fun t4 => U.asBool t4
 (U.asInt x8 fun n5 => U.elemAt 4 x0 n5 fun e6 => U.fieldAt 1 1 e6 fun f7 => U.asVar false 1 f7 fun e8 => U.asAgg b3 fun us9 => if 1 = sizes (us9.take 1) then (us9[1]?).bind fun e10 => U.asVar false 1 e10 fun e11 => (U.bin .gtr e8 e11).bind fun t12 => U.asBool t12
 (U.asVar true 4 b3 fun e13 => (E 290 [e13]).bind fun t14 => if partable (.val t14) = true ∧ t14.size = 4 then if 4 = 4 ∧ 4 = 4 ∧ ((c6).length + ([t14] : List U).length) * 64 ≤ 140737488355328 then U.asInt x8 fun n15 => U.elemAt 4 x0 n15 fun e16 => U.asVar true 4 e16 fun e17 => (E 290 [e17]).bind fun t18 => if partable (.val t18) = true ∧ t18.size = 4 then if 4 = 4 ∧ 4 = 4 ∧ (((c6 ++ ([t14] : List U))).length + ([t18] : List U).length) * 64 ≤ 140737488355328 then (U.bin .add x8 (.int .i64 1)).bind fun t19 => f90_l1 E x0 (.bool true) t19 ((c6 ++ ([t14] : List U)) ++ ([t18] : List U)) b3 else none else none else none else none)
 (U.asInt x8 fun n20 => U.elemAt 4 x0 n20 fun e21 => U.asVar true 4 e21 fun e22 => (E 290 [e22]).bind fun t23 => if partable (.val t23) = true ∧ t23.size = 4 then if 4 = 4 ∧ 4 = 4 ∧ ((c6).length + ([t23] : List U).length) * 64 ≤ 140737488355328 then (U.bin .add x8 (.int .i64 1)).bind fun t24 => f90_l1 E x0 x7 t24 (c6 ++ ([t23] : List U)) b3 else none else none) else none)
 (U.asInt x8 fun n25 => U.elemAt 4 x0 n25 fun e26 => U.asVar true 4 e26 fun e27 => (E 290 [e27]).bind fun t28 => if partable (.val t28) = true ∧ t28.size = 4 then if 4 = 4 ∧ 4 = 4 ∧ ((c6).length + ([t28] : List U).length) * 64 ≤ 140737488355328 then (U.bin .add x8 (.int .i64 1)).bind fun t29 => f90_l1 E x0 x7 t29 (c6 ++ ([t28] : List U)) b3 else none else none))
 ((U.un .not x7).bind fun t30 => U.asBool t30
 (U.asVar true 4 b3 fun e31 => (E 290 [e31]).bind fun t32 => if partable (.val t32) = true ∧ t32.size = 4 then if 4 = 4 ∧ 4 = 4 ∧ ((c6).length + ([t32] : List U).length) * 64 ≤ 140737488355328 then (E 243 [x0]).bind fun t33 => (U.un .not t33).bind fun t34 => U.asBool t34
 (f90_l0 E x0 (.int .i64 0) ([] : List U))
 (U.asAgg b3 fun us35 => if 3 = sizes (us35.take 3) then (us35[3]?).bind fun e36 => U.asVar false 1 e36 fun e37 => (U.lenOf false e37).bind fun n38 => (U.bin .gtr (.int .i64 (n38 : Int)) (.int .i64 0)).bind fun t39 => U.asBool t39
 (f90_l0 E x0 (.int .i64 0) ([] : List U))
 ((E 243 [(.sl 4 (c6 ++ ([t32] : List U)))]).bind fun t40 => U.asFlat t40 fun t41 => (U.un .not t41).bind fun t42 => U.asBool t42
 (f90_l0 E x0 (.int .i64 0) ([] : List U))
 (some (.tup [(.sl 4 (c6 ++ ([t32] : List U))), (.bool true)]))) else none) else none else none)
 ((E 243 [x0]).bind fun t43 => (U.un .not t43).bind fun t44 => U.asBool t44
 (f90_l0 E x0 (.int .i64 0) ([] : List U))
 (U.asAgg b3 fun us45 => if 3 = sizes (us45.take 3) then (us45[3]?).bind fun e46 => U.asVar false 1 e46 fun e47 => (U.lenOf false e47).bind fun n48 => (U.bin .gtr (.int .i64 (n48 : Int)) (.int .i64 0)).bind fun t49 => U.asBool t49
 (f90_l0 E x0 (.int .i64 0) ([] : List U))
 ((E 243 [(.sl 4 c6)]).bind fun t50 => U.asFlat t50 fun t51 => (U.un .not t51).bind fun t52 => U.asBool t52
 (f90_l0 E x0 (.int .i64 0) ([] : List U))
 (some (.tup [(.sl 4 c6), (.bool true)]))) else none))) := (loop_eq E _ _ _ _).trans (by kernel_rfl)
theorem f90_l0_eq (E : Env) (x0 : U) (x10 : U) (c9 : List U) : f90_l0 E x0 x10 c9 =
 (U.lenOf false x0).bind fun n53 => (U.bin .lss x10 (.int .i64 (n53 : Int))).bind fun t54 => U.asBool t54
 (U.asInt x10 fun n55 => U.elemAt 4 x0 n55 fun e56 => U.asVar true 4 e56 fun e57 => (E 290 [e57]).bind fun t58 => if partable (.val t58) = true ∧ t58.size = 4 then if 4 = 4 ∧ 4 = 4 ∧ ((c9).length + ([t58] : List U).length) * 64 ≤ 140737488355328 then (U.bin .add x10 (.int .i64 1)).bind fun t59 => f90_l0 E x0 t59 (c9 ++ ([t58] : List U)) else none else none)
 (some (.tup [(.sl 4 c9), (.bool false)])) := (loop_eq E _ _ _ _).trans (by kernel_rfl)
structure G_f90 (E : Env) : Prop where
  is : Is E 289 2 f90_ac [(4, none), (5, none)]
  c_f108 : G_f108 E
  c_f97 : G_f97 E
theorem f90_E {E : Env} (h : G_f90 E) (a0 a1 : U) : E 289 [a0, a1] =
 U.noTup a1 fun x1 => f90_l1 E a0 (.bool false) (.int .i64 0) ([] : List U) x1 := (h.is _ rfl).trans ((runQ_V rfl).trans (by kernel_rfl))
def f88_b0 : AC :=
 (.seq (rg [oo 9 (.bin .lss (.t 8) (.t 7))])
 (.seq (.cond (.t 9) .skip (.exit 0))
 (.seq (.block 1 (.seq (rg [oo 10 (.mv (.t 8)),
  oo 5 (.mv (.t 10))])
 (.seq (rg [oo 11 (.mv (.t 1)),
  oo 12 (.mv (.t 0)),
  oo 13 (.mv (.t 5)),
  oo 14 (.iaddr 4 (.t 12) (.t 13)),
  oo 15 (.load true 4 (.t 14)),
  oo 16 (.callv false (.t 11) [(.t 15)])])
 (.cond (.t 16) (.seq (rg [oo 17 (.mv (.t 5)),
  oo 4 (.mv (.t 17))])
 .ret) .skip))))
 (rg [oo 18 (.bin .add (.t 8) (ci 1)),
  oo 8 (.mv (.t 18))]))))
def f88_r0 : AC :=
 (.seq (rg [oo 4 (.mv (ci (-1)))])
 .ret)
def f88_ac : AC :=
 (.seq (rg [oo 4 (.mv (ci 0))])
 (.seq (.seq (rg [oo 6 (.mv (.t 0)),
  oo 7 (.len false (.t 6)),
  oo 8 (.mv (ci 0))])
 (.block 0 (.loop ⟨[0, 1, 7, 8], [], []⟩ f88_b0)))
 f88_r0))
noncomputable def f88_l0 (E : Env) (x0 : U) (x1 : U) (x7 : U) (x8 : U) : Option U := loopK (roundOf E ⟨[0, 1, 7, 8], [], []⟩ f88_b0 (blockK 0 (seqK (fun s => exec E f88_r0 s (finish [(4, none)])) (finish [(4, none)])))) ([.val x0, .val x1, .val x7, .val x8], [])
theorem f88_l0_eq (E : Env) (x0 : U) (x1 : U) (x7 : U) (x8 : U) : f88_l0 E x0 x1 x7 x8 =
 (U.bin .lss x8 x7).bind fun t2 => U.asBool t2
 (U.asInt x8 fun n3 => U.elemAt 4 x0 n3 fun e4 => U.asVar true 4 e4 fun e5 => U.asFn x1 fun r6 caps7 => (E r6 ([e5] ++ caps7)).bind fun t8 => U.asBool t8
 (some x8)
 ((U.bin .add x8 (.int .i64 1)).bind fun t9 => f88_l0 E x0 x1 x7 t9))
 (some (.int .i64 (-1))) := (loop_eq E _ _ _ _).trans (by kernel_rfl)
structure G_f88 (E : Env) : Prop where
  is : Is E 253 2 f88_ac [(4, none)]
theorem f88_E {E : Env} (h : G_f88 E) (a0 a1 : U) : E 253 [a0, a1] =
 (U.lenOf false a0).bind fun n1 => f88_l0 E a0 a1 (.int .i64 (n1 : Int)) (.int .i64 0) := (h.is _ rfl).trans ((runQ_V rfl).trans (by kernel_rfl))
def f11_ac : AC :=
 (.seq (rg [oo 2 (.box false 2 (.t 0)),
  oo 3 (.mv (.c (.bool false)))])
 (.seq (rg [oo 4 (.faddr 0 0 (.t 2)),
  oo 5 (.load false 1 (.t 4)),
  oo 6 (.load false 1 (.t 1)),
  oo 7 (.bin .eql (.t 5) (.t 6)),
  oo 3 (.mv (.t 7))])
 .ret))
structure G_f11 (E : Env) : Prop where
  is : Is E 252 2 f11_ac [(3, none)]
theorem f11_E {E : Env} (h : G_f11 E) (a0 a1 : U) : E 252 [a0, a1] =
 U.noTup a0 fun x1 => U.asAgg x1 fun us2 => if 0 = sizes (us2.take 0) then (us2[0]?).bind fun e3 => U.asVar false 1 e3 fun e4 => U.asVp a1 fun v5 => U.asVar false 1 v5 fun e6 => (U.bin .eql e4 e6).bind fun t7 => some t7 else none := (h.is _ rfl).trans ((runQ_V rfl).trans (by kernel_rfl))
def f10_ac : AC :=
 (.seq (rg [oo 3 (.box true 3 (.t 1)),
  oo 4 (.mv (ci 0))])
 (.seq (rg [oo 5 (.mv (.t 0)),
  oo 6 (.mkfn 252 [(.t 3)]),
  oo 7 (.call false 253 [(.t 5), (.t 6)]),
  oo 4 (.mv (.t 7))])
 .ret))
structure G_f10 (E : Env) : Prop where
  is : Is E 251 2 f10_ac [(4, none)]
  c_f88 : G_f88 E
  c_f11 : G_f11 E
theorem f10_E {E : Env} (h : G_f10 E) (a0 a1 : U) : E 251 [a0, a1] =
 U.noTup a1 fun x1 => (E 253 [a0, (.fn 252 [(.vp x1)])]).bind fun t2 => U.asFlat t2 fun t3 => some t3 := (h.is _ rfl).trans ((runQ_V rfl).trans (by kernel_rfl))
def f42_ac : AC :=
 (.seq (rg [oo 6 (.mv (.c (.bool false)))])
 (.seq (rg [oo 7 (.mv (.t 1)),
  oo 8 (.mv (.t 0)),
  oo 9 (.bin .leq (.t 7) (.t 8)),
  oo 10 (.mv (.t 9)),
  ⟨some 11, .mv (.t 0), some (10, true)⟩,
  ⟨some 12, .mv (.t 2), some (10, true)⟩,
  ⟨some 13, .bin .leq (.t 11) (.t 12), some (10, true)⟩,
  oo 14 (.pick (.t 10) (.t 13) (.c (.bool false))),
  oo 6 (.mv (.t 14))])
 .ret))
structure G_f42 (E : Env) : Prop where
  is : Is E 10 3 f42_ac [(6, none)]
theorem f42_E {E : Env} (h : G_f42 E) (a0 a1 a2 : U) : E 10 [a0, a1, a2] =
 (U.bin .leq a1 a0).bind fun t1 => U.asBool t1
 ((U.bin .leq a0 a2).bind fun t2 => some t2)
 (some (.bool false)) := (h.is _ rfl).trans ((runQ_V rfl).trans (by kernel_rfl))
def f44_ac : AC :=
 (.seq (rg [oo 2 (.mv (.c (.bool false)))])
 (.seq (rg [oo 3 (.mv (.t 0)),
  oo 4 (.call false 10 [(.t 3), (ci 1), (ci 9)]),
  oo 2 (.mv (.t 4))])
 .ret))
structure G_f44 (E : Env) : Prop where
  is : Is E 9 1 f44_ac [(2, none)]
  c_f42 : G_f42 E
theorem f44_E {E : Env} (h : G_f44 E) (a0 : U) : E 9 [a0] =
 (E 10 [a0, (.int .i64 1), (.int .i64 9)]).bind fun t1 => some t1 := (h.is _ rfl).trans ((runQ_V rfl).trans (by kernel_rfl))
def f20_ac : AC :=
 (.seq (rg [oo 2 (.mv (.c (.bool false)))])
 (.seq (rg [oo 3 (.mv (.t 0)),
  oo 4 (.call false 10 [(.t 3), (ci 1), (ci 999)]),
  oo 2 (.mv (.t 4))])
 .ret))
structure G_f20 (E : Env) : Prop where
  is : Is E 72 1 f20_ac [(2, none)]
  c_f42 : G_f42 E
theorem f20_E {E : Env} (h : G_f20 E) (a0 : U) : E 72 [a0] =
 (E 10 [a0, (.int .i64 1), (.int .i64 999)]).bind fun t1 => some t1 := (h.is _ rfl).trans ((runQ_V rfl).trans (by kernel_rfl))
def f45_ac : AC :=
 (.seq (rg [oo 2 (.mv (.c (.bool false)))])
 (.seq (rg [oo 3 (.mv (.t 0)),
  oo 4 (.call false 10 [(.t 3), (ci 0), (ci 5)]),
  oo 2 (.mv (.t 4))])
 .ret))
structure G_f45 (E : Env) : Prop where
  is : Is E 11 1 f45_ac [(2, none)]
  c_f42 : G_f42 E
theorem f45_E {E : Env} (h : G_f45 E) (a0 : U) : E 11 [a0] =
 (E 10 [a0, (.int .i64 0), (.int .i64 5)]).bind fun t1 => some t1 := (h.is _ rfl).trans ((runQ_V rfl).trans (by kernel_rfl))
def f1_b0 : AC :=
 (.seq (rg [oo 9 (.bin .lss (.t 8) (.t 7))])
 (.seq (.cond (.t 9) .skip (.exit 0))
 (.seq (.block 1 (.seq (rg [oo 10 (.iaddr 1 (.t 6) (.t 8)),
  oo 11 (.load false 1 (.t 10)),
  oo 5 (.mv (.t 11))])
 (.seq (rg [oo 12 (.mv (.t 5)),
  oo 13 (.mv (.t 3)),
  oo 14 (.bin .neq (.t 12) (.t 13))])
 (.cond (.t 14) (.seq (rg [oo 15 (.mv (.t 5)),
  oo 2 (.mv (.t 15))])
 .ret) .skip))))
 (rg [oo 16 (.bin .add (.t 8) (ci 1)),
  oo 8 (.mv (.t 16))]))))
def f1_r0 : AC :=
 (.seq (rg [oo 17 (.mv (.t 3)),
  oo 2 (.mv (.t 17))])
 .ret)
def f1_ac : AC :=
 (.seq (rg [oo 2 (.mv (ci 0))])
 (.seq (rg [oo 3 (.mv (ci 0))])
 (.seq (.seq (rg [oo 6 (.mv (.t 0)),
  oo 7 (.len false (.t 6)),
  oo 8 (.mv (ci 0))])
 (.block 0 (.loop ⟨[3, 6, 7, 8], [], []⟩ f1_b0)))
 f1_r0)))
noncomputable def f1_l0 (E : Env) (x3 : U) (x6 : U) (x7 : U) (x8 : U) : Option U := loopK (roundOf E ⟨[3, 6, 7, 8], [], []⟩ f1_b0 (blockK 0 (seqK (fun s => exec E f1_r0 s (finish [(2, none)])) (finish [(2, none)])))) ([.val x3, .val x6, .val x7, .val x8], [])
theorem f1_l0_eq (E : Env) (x3 : U) (x6 : U) (x7 : U) (x8 : U) : f1_l0 E x3 x6 x7 x8 =
 (U.bin .lss x8 x7).bind fun t2 => U.asBool t2
 (U.asInt x8 fun n3 => U.elemAt 1 x6 n3 fun e4 => U.asVar false 1 e4 fun e5 => (U.bin .neq e5 x3).bind fun t6 => U.asBool t6
 (some e5)
 ((U.bin .add x8 (.int .i64 1)).bind fun t7 => f1_l0 E x3 x6 x7 t7))
 (some x3) := (loop_eq E _ _ _ _).trans (by kernel_rfl)
structure G_f1 (E : Env) : Prop where
  is : Is E 14 1 f1_ac [(2, none)]
theorem f1_E {E : Env} (h : G_f1 E) (a0 : U) : E 14 [a0] =
 (U.lenOf false a0).bind fun n1 => f1_l0 E (.int .i64 0) a0 (.int .i64 (n1 : Int)) (.int .i64 0) := (h.is _ rfl).trans ((runQ_V rfl).trans (by kernel_rfl))
def f2_ac : AC :=
 (.seq (rg [oo 2 (.mv (.c (.bool false)))])
 (.seq (rg [oo 3 (.mv (.t 0)),
  oo 4 (.mv (.t 0)),
  oo 5 (.bin .neq (.t 3) (.t 4)),
  oo 2 (.mv (.t 5))])
 .ret))
structure G_f2 (E : Env) : Prop where
  is : Is E 15 1 f2_ac [(2, none)]
theorem f2_E {E : Env} (h : G_f2 E) (a0 : U) : E 15 [a0] =
 (U.bin .neq a0 a0).bind fun t1 => some t1 := (h.is _ rfl).trans ((runQ_V rfl).trans (by kernel_rfl))
def f0_ac : AC :=
 (.seq (rg [oo 4 (.mv (ci 0))])
 (.seq (rg [oo 7 (.mv (.t 0)),
  oo 8 (.call false 15 [(.t 7)]),
  oo 5 (.mv (.t 8))])
 (.seq (rg [oo 9 (.mv (.t 1)),
  oo 10 (.call false 15 [(.t 9)]),
  oo 6 (.mv (.t 10))])
 (.seq (.seq (rg [oo 11 (.mv (.t 5))])
 (.cond (.t 11) (.seq (.seq (rg [oo 12 (.mv (.t 6))])
 (.cond (.t 12) (.seq (rg [oo 4 (.mv (ci 0))])
 .ret) .skip))
 (.seq (rg [oo 4 (.mv (ci (-1)))])
 .ret)) .skip))
 (.seq (.seq (rg [oo 13 (.mv (.t 6))])
 (.cond (.t 13) (.seq (rg [oo 4 (.mv (ci 1))])
 .ret) .skip))
 (.seq (.seq (rg [oo 14 (.mv (.t 0)),
  oo 15 (.mv (.t 1)),
  oo 16 (.bin .lss (.t 14) (.t 15))])
 (.cond (.t 16) (.seq (rg [oo 4 (.mv (ci (-1)))])
 .ret) .skip))
 (.seq (.seq (rg [oo 17 (.mv (.t 0)),
  oo 18 (.mv (.t 1)),
  oo 19 (.bin .gtr (.t 17) (.t 18))])
 (.cond (.t 19) (.seq (rg [oo 4 (.mv (ci 1))])
 .ret) .skip))
 (.seq (rg [oo 4 (.mv (ci 0))])
 .ret))))))))
structure G_f0 (E : Env) : Prop where
  is : Is E 13 2 f0_ac [(4, none)]
  c_f2 : G_f2 E
theorem f0_E {E : Env} (h : G_f0 E) (a0 a1 : U) : E 13 [a0, a1] =
 (E 15 [a0]).bind fun t1 => (E 15 [a1]).bind fun t2 => U.asBool t1
 (U.asBool t2
 (some (.int .i64 0))
 (some (.int .i64 (-1))))
 (U.asBool t2
 (some (.int .i64 1))
 ((U.bin .lss a0 a1).bind fun t3 => U.asBool t3
 (some (.int .i64 (-1)))
 ((U.bin .gtr a0 a1).bind fun t4 => U.asBool t4
 (some (.int .i64 1))
 (some (.int .i64 0))))) := (h.is _ rfl).trans ((runQ_V rfl).trans (by kernel_rfl))
def f39_ac : AC :=
 (.seq (rg [oo 2 (.box false 2 (.t 0)),
  oo 3 (.box false 3 (.t 1)),
  oo 4 (.mv (ci 0))])
 (.seq (.region 13 [oo 5 (.faddr 0 0 (.t 2)),
  oo 6 (.load false 1 (.t 5)),
  oo 7 (.faddr 0 0 (.t 3)),
  oo 8 (.load false 1 (.t 7)),
  oo 9 (.call false 13 [(.t 6), (.t 8)]),
  oo 10 (.faddr 1 1 (.t 2)),
  oo 11 (.load false 1 (.t 10)),
  oo 12 (.faddr 1 1 (.t 3)),
  oo 13 (.load false 1 (.t 12)),
  oo 14 (.call false 13 [(.t 11), (.t 13)]),
  oo 15 (.bslice 0 15 1 2 (.int .i64 0) [(0, (.t 9)), (1, (.t 14))]),
  oo 16 (.call false 14 [(.t 15)]),
  oo 4 (.mv (.t 16))])
 .ret))
structure G_f39 (E : Env) : Prop where
  is : Is E 75 2 f39_ac [(4, none)]
  c_f1 : G_f1 E
  c_f0 : G_f0 E
theorem f39_E {E : Env} (h : G_f39 E) (a0 a1 : U) : E 75 [a0, a1] =
 U.noTup a0 fun x1 => U.noTup a1 fun x2 => U.asAgg x1 fun us3 => if 0 = sizes (us3.take 0) then (us3[0]?).bind fun e4 => U.asVar false 1 e4 fun e5 => U.asAgg x2 fun us6 => if 0 = sizes (us6.take 0) then (us6[0]?).bind fun e7 => U.asVar false 1 e7 fun e8 => (E 13 [e5, e8]).bind fun t9 => U.asAgg x1 fun us10 => if 1 = sizes (us10.take 1) then (us10[1]?).bind fun e11 => U.asVar false 1 e11 fun e12 => U.asAgg x2 fun us13 => if 1 = sizes (us13.take 1) then (us13[1]?).bind fun e14 => U.asVar false 1 e14 fun e15 => (E 13 [e12, e15]).bind fun t16 => if partable (.val t9) = true ∧ t9.size = 1 then if partable (.val t16) = true ∧ t16.size = 1 then (E 14 [(.sl 1 [t9, t16])]).bind fun t17 => some t17 else none else none else none else none else none else none := (h.is _ rfl).trans ((runQ_V rfl).trans (by kernel_rfl))
def f37_b0 : AC :=
 (.seq (rg [oo 8 (.bin .lss (.t 7) (.t 6))])
 (.seq (.cond (.t 8) .skip (.exit 0))
 (.seq (.block 1 (.seq (rg [oo 9 (.mv (.t 7)),
  oo 10 (.iaddr 2 (.t 5) (.t 7)),
  oo 11 (.load true 2 (.t 10)),
  oo 4 (.alloc 4 (.agg [(.int .i64 0), (.int .i64 0)])),
  oo 3 (.mv (.t 9)),
  ⟨none, .store 2 (.t 4) (.t 11), none⟩])
 (.seq (.region 24 [oo 12 (.faddr 0 0 (.t 4)),
  oo 13 (.load false 1 (.t 12)),
  oo 14 (.call false 11 [(.t 13)]),
  oo 15 (.un .not (.t 14)),
  oo 16 (.mv (.t 15)),
  ⟨some 17, .faddr 1 1 (.t 4), some (16, false)⟩,
  ⟨some 18, .load false 1 (.t 17), some (16, false)⟩,
  ⟨some 19, .call false 10 [(.t 18), (ci 0), (ci 999)], some (16, false)⟩,
  ⟨some 20, .un .not (.t 19), some (16, false)⟩,
  oo 21 (.pick (.t 16) (.c (.bool true)) (.t 20)),
  oo 22 (.mv (.t 21)),
  ⟨some 23, .mv (.t 3), some (22, false)⟩,
  ⟨some 24, .bin .gtr (.t 23) (ci 0), some (22, false)⟩,
  ⟨some 25, .mv (.t 24), some (22, false)⟩,
  ⟨some 26, .mv (.t 0), some (25, true)⟩,
  ⟨some 27, .mv (.t 3), some (25, true)⟩,
  ⟨some 28, .bin .sub (.t 27) (ci 1), some (25, true)⟩,
  ⟨some 29, .iaddr 2 (.t 26) (.t 28), some (25, true)⟩,
  ⟨some 30, .load true 2 (.t 29), some (25, true)⟩,
  ⟨some 31, .load true 2 (.t 4), some (25, true)⟩,
  ⟨some 32, .call false 75 [(.t 30), (.t 31)], some (25, true)⟩,
  ⟨some 33, .bin .geq (.t 32) (ci 0), some (25, true)⟩,
  ⟨some 34, .pick (.t 25) (.t 33) (.c (.bool false)), some (22, false)⟩,
  oo 35 (.pick (.t 22) (.c (.bool true)) (.t 34))])
 (.cond (.t 35) (.seq (rg [oo 2 (.mv (.c (.bool false)))])
 .ret) .skip))))
 (rg [oo 36 (.bin .add (.t 7) (ci 1)),
  oo 7 (.mv (.t 36))]))))
def f37_r0 : AC :=
 (.seq (rg [oo 37 (.mv (.t 0)),
  oo 38 (.len false (.t 37)),
  oo 39 (.bin .leq (.t 38) (ci 60)),
  oo 2 (.mv (.t 39))])
 .ret)
def f37_ac : AC :=
 (.seq (rg [oo 2 (.mv (.c (.bool false)))])
 (.seq (.seq (rg [oo 5 (.mv (.t 0)),
  oo 6 (.len false (.t 5)),
  oo 7 (.mv (ci 0))])
 (.block 0 (.loop ⟨[0, 5, 6, 7], [], []⟩ f37_b0)))
 f37_r0))
noncomputable def f37_l0 (E : Env) (x0 : U) (x5 : U) (x6 : U) (x7 : U) : Option U := loopK (roundOf E ⟨[0, 5, 6, 7], [], []⟩ f37_b0 (blockK 0 (seqK (fun s => exec E f37_r0 s (finish [(2, none)])) (finish [(2, none)])))) ([.val x0, .val x5, .val x6, .val x7], [])
theorem f37_l0_eq (E : Env) (x0 : U) (x5 : U) (x6 : U) (x7 : U) : f37_l0 E x0 x5 x6 x7 =
 (U.bin .lss x7 x6).bind fun t2 => U.asBool t2
 (U.asInt x7 fun n3 => U.elemAt 2 x5 n3 fun e4 => U.asVar true 2 e4 fun e5 => if storable (.val e5) = true ∧ e5.size = 2 then U.asAgg e5 fun us6 => if 0 = sizes (us6.take 0) then (us6[0]?).bind fun e7 => U.asVar false 1 e7 fun e8 => (E 11 [e8]).bind fun t9 => (U.un .not t9).bind fun t10 => U.asBool t10
 (some (.bool false))
 (U.asAgg e5 fun us11 => if 1 = sizes (us11.take 1) then (us11[1]?).bind fun e12 => U.asVar false 1 e12 fun e13 => (E 10 [e13, (.int .i64 0), (.int .i64 999)]).bind fun t14 => (U.un .not t14).bind fun t15 => U.asBool t15
 (some (.bool false))
 ((U.bin .gtr x7 (.int .i64 0)).bind fun t16 => U.asBool t16
 ((U.bin .sub x7 (.int .i64 1)).bind fun t17 => U.asInt t17 fun n18 => U.elemAt 2 x0 n18 fun e19 => U.asVar true 2 e19 fun e20 => U.asVar true 2 e5 fun e21 => (E 75 [e20, e21]).bind fun t22 => (U.bin .geq t22 (.int .i64 0)).bind fun t23 => U.asBool t23
 (some (.bool false))
 ((U.bin .add x7 (.int .i64 1)).bind fun t24 => f37_l0 E x0 x5 x6 t24))
 ((U.bin .add x7 (.int .i64 1)).bind fun t25 => f37_l0 E x0 x5 x6 t25)) else none) else none else none)
 ((U.lenOf false x0).bind fun n26 => (U.bin .leq (.int .i64 (n26 : Int)) (.int .i64 60)).bind fun t27 => some t27) := (loop_eq E _ _ _ _).trans (by kernel_rfl)
structure G_f37 (E : Env) : Prop where
  is : Is E 73 1 f37_ac [(2, none)]
  c_f45 : G_f45 E
  c_f42 : G_f42 E
  c_f39 : G_f39 E
theorem f37_E {E : Env} (h : G_f37 E) (a0 : U) : E 73 [a0] =
 (U.lenOf false a0).bind fun n1 => f37_l0 E a0 a0 (.int .i64 (n1 : Int)) (.int .i64 0) := (h.is _ rfl).trans ((runQ_V rfl).trans (by kernel_rfl))
def f47_ac : AC :=
 (.seq (rg [oo 2 (.mv (.c (.bool false)))])
 (.seq (rg [oo 3 (.mv (.t 0)),
  oo 4 (.call false 10 [(.t 3), (ci (-1)), (ci 99)]),
  oo 2 (.mv (.t 4))])
 .ret))
structure G_f47 (E : Env) : Prop where
  is : Is E 76 1 f47_ac [(2, none)]
  c_f42 : G_f42 E
theorem f47_E {E : Env} (h : G_f47 E) (a0 : U) : E 76 [a0] =
 (E 10 [a0, (.int .i64 (-1)), (.int .i64 99)]).bind fun t1 => some t1 := (h.is _ rfl).trans ((runQ_V rfl).trans (by kernel_rfl))
def f38_b0 : AC :=
 (.seq (rg [oo 8 (.bin .lss (.t 7) (.t 6))])
 (.seq (.cond (.t 8) .skip (.exit 0))
 (.seq (.block 1 (.seq (rg [oo 9 (.mv (.t 7)),
  oo 10 (.iaddr 2 (.t 5) (.t 7)),
  oo 11 (.load true 2 (.t 10)),
  oo 4 (.alloc 4 (.agg [(.int .i64 0), (.int .i64 0)])),
  oo 3 (.mv (.t 9)),
  ⟨none, .store 2 (.t 4) (.t 11), none⟩])
 (.seq (.region 25 [oo 12 (.faddr 0 0 (.t 4)),
  oo 13 (.load false 1 (.t 12)),
  oo 14 (.call false 11 [(.t 13)]),
  oo 15 (.un .not (.t 14)),
  oo 16 (.mv (.t 15)),
  ⟨some 17, .faddr 1 1 (.t 4), some (16, false)⟩,
  ⟨some 18, .load false 1 (.t 17), some (16, false)⟩,
  ⟨some 19, .call false 76 [(.t 18)], some (16, false)⟩,
  ⟨some 20, .un .not (.t 19), some (16, false)⟩,
  oo 21 (.pick (.t 16) (.c (.bool true)) (.t 20)),
  oo 22 (.mv (.t 21)),
  ⟨some 23, .mv (.t 3), some (22, false)⟩,
  ⟨some 24, .bin .gtr (.t 23) (ci 0), some (22, false)⟩,
  ⟨some 25, .mv (.t 24), some (22, false)⟩,
  ⟨some 26, .mv (.t 0), some (25, true)⟩,
  ⟨some 27, .mv (.t 3), some (25, true)⟩,
  ⟨some 28, .bin .sub (.t 27) (ci 1), some (25, true)⟩,
  ⟨some 29, .iaddr 2 (.t 26) (.t 28), some (25, true)⟩,
  ⟨some 30, .faddr 0 0 (.t 29), some (25, true)⟩,
  ⟨some 31, .load false 1 (.t 30), some (25, true)⟩,
  ⟨some 32, .faddr 0 0 (.t 4), some (25, true)⟩,
  ⟨some 33, .load false 1 (.t 32), some (25, true)⟩,
  ⟨some 34, .bin .geq (.t 31) (.t 33), some (25, true)⟩,
  ⟨some 35, .pick (.t 25) (.t 34) (.c (.bool false)), some (22, false)⟩,
  oo 36 (.pick (.t 22) (.c (.bool true)) (.t 35))])
 (.cond (.t 36) (.seq (rg [oo 2 (.mv (.c (.bool false)))])
 .ret) .skip))))
 (rg [oo 37 (.bin .add (.t 7) (ci 1)),
  oo 7 (.mv (.t 37))]))))
def f38_r0 : AC :=
 (.seq (rg [oo 2 (.mv (.c (.bool true)))])
 .ret)
def f38_ac : AC :=
 (.seq (rg [oo 2 (.mv (.c (.bool false)))])
 (.seq (.seq (rg [oo 5 (.mv (.t 0)),
  oo 6 (.len false (.t 5)),
  oo 7 (.mv (ci 0))])
 (.block 0 (.loop ⟨[0, 5, 6, 7], [], []⟩ f38_b0)))
 f38_r0))
noncomputable def f38_l0 (E : Env) (x0 : U) (x5 : U) (x6 : U) (x7 : U) : Option U := loopK (roundOf E ⟨[0, 5, 6, 7], [], []⟩ f38_b0 (blockK 0 (seqK (fun s => exec E f38_r0 s (finish [(2, none)])) (finish [(2, none)])))) ([.val x0, .val x5, .val x6, .val x7], [])
theorem f38_l0_eq (E : Env) (x0 : U) (x5 : U) (x6 : U) (x7 : U) : f38_l0 E x0 x5 x6 x7 =
 (U.bin .lss x7 x6).bind fun t2 => U.asBool t2
 (U.asInt x7 fun n3 => U.elemAt 2 x5 n3 fun e4 => U.asVar true 2 e4 fun e5 => if storable (.val e5) = true ∧ e5.size = 2 then U.asAgg e5 fun us6 => if 0 = sizes (us6.take 0) then (us6[0]?).bind fun e7 => U.asVar false 1 e7 fun e8 => (E 11 [e8]).bind fun t9 => (U.un .not t9).bind fun t10 => U.asBool t10
 (some (.bool false))
 (U.asAgg e5 fun us11 => if 1 = sizes (us11.take 1) then (us11[1]?).bind fun e12 => U.asVar false 1 e12 fun e13 => (E 76 [e13]).bind fun t14 => (U.un .not t14).bind fun t15 => U.asBool t15
 (some (.bool false))
 ((U.bin .gtr x7 (.int .i64 0)).bind fun t16 => U.asBool t16
 ((U.bin .sub x7 (.int .i64 1)).bind fun t17 => U.asInt t17 fun n18 => U.elemAt 2 x0 n18 fun e19 => U.fieldAt 0 0 e19 fun f20 => U.asVar false 1 f20 fun e21 => U.asAgg e5 fun us22 => if 0 = sizes (us22.take 0) then (us22[0]?).bind fun e23 => U.asVar false 1 e23 fun e24 => (U.bin .geq e21 e24).bind fun t25 => U.asBool t25
 (some (.bool false))
 ((U.bin .add x7 (.int .i64 1)).bind fun t26 => f38_l0 E x0 x5 x6 t26) else none)
 ((U.bin .add x7 (.int .i64 1)).bind fun t27 => f38_l0 E x0 x5 x6 t27)) else none) else none else none)
 (some (.bool true)) := (loop_eq E _ _ _ _).trans (by kernel_rfl)
structure G_f38 (E : Env) : Prop where
  is : Is E 74 1 f38_ac [(2, none)]
  c_f45 : G_f45 E
  c_f47 : G_f47 E
theorem f38_E {E : Env} (h : G_f38 E) (a0 : U) : E 74 [a0] =
 (U.lenOf false a0).bind fun n1 => f38_l0 E a0 a0 (.int .i64 (n1 : Int)) (.int .i64 0) := (h.is _ rfl).trans ((runQ_V rfl).trans (by kernel_rfl))
def f43_ac : AC :=
 (.seq (rg [oo 1 (.box false 1 (.t 0)),
  oo 2 (.mv (.c (.bool false)))])
 (.seq (rg [oo 3 (.faddr 0 0 (.t 1)),
  oo 4 (.load false 1 (.t 3)),
  oo 5 (.call false 9 [(.t 4)]),
  oo 6 (.mv (.t 5)),
  ⟨some 7, .faddr 1 1 (.t 1), some (6, true)⟩,
  ⟨some 8, .load false 1 (.t 7), some (6, true)⟩,
  ⟨some 9, .call false 72 [(.t 8)], some (6, true)⟩,
  oo 10 (.pick (.t 6) (.t 9) (.c (.bool false))),
  oo 11 (.mv (.t 10)),
  ⟨some 12, .faddr 2 2 (.t 1), some (11, true)⟩,
  ⟨some 13, .load false 1 (.t 12), some (11, true)⟩,
  ⟨some 14, .call false 73 [(.t 13)], some (11, true)⟩,
  oo 15 (.pick (.t 11) (.t 14) (.c (.bool false))),
  oo 16 (.mv (.t 15)),
  ⟨some 17, .faddr 3 3 (.t 1), some (16, true)⟩,
  ⟨some 18, .load false 1 (.t 17), some (16, true)⟩,
  ⟨some 19, .call false 74 [(.t 18)], some (16, true)⟩,
  oo 20 (.pick (.t 16) (.t 19) (.c (.bool false))),
  oo 2 (.mv (.t 20))])
 .ret))
structure G_f43 (E : Env) : Prop where
  is : Is E 250 1 f43_ac [(2, none)]
  c_f44 : G_f44 E
  c_f20 : G_f20 E
  c_f37 : G_f37 E
  c_f38 : G_f38 E
theorem f43_E {E : Env} (h : G_f43 E) (a0 : U) : E 250 [a0] =
 U.noTup a0 fun x1 => U.asAgg x1 fun us2 => if 0 = sizes (us2.take 0) then (us2[0]?).bind fun e3 => U.asVar false 1 e3 fun e4 => (E 9 [e4]).bind fun t5 => U.asBool t5
 (U.asAgg x1 fun us6 => if 1 = sizes (us6.take 1) then (us6[1]?).bind fun e7 => U.asVar false 1 e7 fun e8 => (E 72 [e8]).bind fun t9 => U.asBool t9
 (U.asAgg x1 fun us10 => if 2 = sizes (us10.take 2) then (us10[2]?).bind fun e11 => U.asVar false 1 e11 fun e12 => (E 73 [e12]).bind fun t13 => U.asBool t13
 (U.asAgg x1 fun us14 => if 3 = sizes (us14.take 3) then (us14[3]?).bind fun e15 => U.asVar false 1 e15 fun e16 => (E 74 [e16]).bind fun t17 => some t17 else none)
 (some (.bool false)) else none)
 (some (.bool false)) else none)
 (some (.bool false)) else none := (h.is _ rfl).trans ((runQ_V rfl).trans (by kernel_rfl))
def f89_b0 : AC :=
 (.seq (rg [oo 9 (.bin .lss (.t 8) (.t 7))])
 (.seq (.cond (.t 9) .skip (.exit 0))
 (.seq (.block 1 (.seq (rg [oo 10 (.mv (.t 8)),
  oo 5 (.mv (.t 10))])
 (.seq (rg [oo 11 (.mv (.t 1)),
  oo 12 (.mv (.t 0)),
  oo 13 (.mv (.t 5)),
  oo 14 (.iaddr 2 (.t 12) (.t 13)),
  oo 15 (.load true 2 (.t 14)),
  oo 16 (.callv false (.t 11) [(.t 15)])])
 (.cond (.t 16) (.seq (rg [oo 17 (.mv (.t 5)),
  oo 4 (.mv (.t 17))])
 .ret) .skip))))
 (rg [oo 18 (.bin .add (.t 8) (ci 1)),
  oo 8 (.mv (.t 18))]))))
def f89_r0 : AC :=
 (.seq (rg [oo 4 (.mv (ci (-1)))])
 .ret)
def f89_ac : AC :=
 (.seq (rg [oo 4 (.mv (ci 0))])
 (.seq (.seq (rg [oo 6 (.mv (.t 0)),
  oo 7 (.len false (.t 6)),
  oo 8 (.mv (ci 0))])
 (.block 0 (.loop ⟨[0, 1, 7, 8], [], []⟩ f89_b0)))
 f89_r0))
noncomputable def f89_l0 (E : Env) (x0 : U) (x1 : U) (x7 : U) (x8 : U) : Option U := loopK (roundOf E ⟨[0, 1, 7, 8], [], []⟩ f89_b0 (blockK 0 (seqK (fun s => exec E f89_r0 s (finish [(4, none)])) (finish [(4, none)])))) ([.val x0, .val x1, .val x7, .val x8], [])
theorem f89_l0_eq (E : Env) (x0 : U) (x1 : U) (x7 : U) (x8 : U) : f89_l0 E x0 x1 x7 x8 =
 (U.bin .lss x8 x7).bind fun t2 => U.asBool t2
 (U.asInt x8 fun n3 => U.elemAt 2 x0 n3 fun e4 => U.asVar true 2 e4 fun e5 => U.asFn x1 fun r6 caps7 => (E r6 ([e5] ++ caps7)).bind fun t8 => U.asBool t8
 (some x8)
 ((U.bin .add x8 (.int .i64 1)).bind fun t9 => f89_l0 E x0 x1 x7 t9))
 (some (.int .i64 (-1))) := (loop_eq E _ _ _ _).trans (by kernel_rfl)
structure G_f89 (E : Env) : Prop where
  is : Is E 55 2 f89_ac [(4, none)]
theorem f89_E {E : Env} (h : G_f89 E) (a0 a1 : U) : E 55 [a0, a1] =
 (U.lenOf false a0).bind fun n1 => f89_l0 E a0 a1 (.int .i64 (n1 : Int)) (.int .i64 0) := (h.is _ rfl).trans ((runQ_V rfl).trans (by kernel_rfl))
def f81_ac : AC :=
 (.seq (rg [oo 4 (.mv (.c (.bool false)))])
 (.seq (rg [oo 5 (.mv (.t 0)),
  oo 6 (.mv (.t 1)),
  oo 7 (.call false 55 [(.t 5), (.t 6)]),
  oo 8 (.bin .geq (.t 7) (ci 0)),
  oo 4 (.mv (.t 8))])
 .ret))
structure G_f81 (E : Env) : Prop where
  is : Is E 54 2 f81_ac [(4, none)]
  c_f89 : G_f89 E
theorem f81_E {E : Env} (h : G_f81 E) (a0 a1 : U) : E 54 [a0, a1] =
 (E 55 [a0, a1]).bind fun t1 => (U.bin .geq t1 (.int .i64 0)).bind fun t2 => some t2 := (h.is _ rfl).trans ((runQ_V rfl).trans (by kernel_rfl))
def f9_ac : AC :=
 (.seq (rg [oo 2 (.box false 2 (.t 0)),
  oo 3 (.mv (.c (.bool false)))])
 (.seq (rg [oo 4 (.faddr 0 0 (.t 2)),
  oo 5 (.load false 1 (.t 4)),
  oo 6 (.load false 1 (.t 1)),
  oo 7 (.bin .eql (.t 5) (.t 6)),
  oo 3 (.mv (.t 7))])
 .ret))
structure G_f9 (E : Env) : Prop where
  is : Is E 53 2 f9_ac [(3, none)]
theorem f9_E {E : Env} (h : G_f9 E) (a0 a1 : U) : E 53 [a0, a1] =
 U.noTup a0 fun x1 => U.asAgg x1 fun us2 => if 0 = sizes (us2.take 0) then (us2[0]?).bind fun e3 => U.asVar false 1 e3 fun e4 => U.asVp a1 fun v5 => U.asVar false 1 v5 fun e6 => (U.bin .eql e4 e6).bind fun t7 => some t7 else none := (h.is _ rfl).trans ((runQ_V rfl).trans (by kernel_rfl))
def f8_ac : AC :=
 (.seq (rg [oo 2 (.box false 2 (.t 0)),
  oo 3 (.box true 3 (.t 1)),
  oo 4 (.mv (.c (.bool false)))])
 (.seq (rg [oo 5 (.faddr 3 3 (.t 2)),
  oo 6 (.load false 1 (.t 5)),
  oo 7 (.mkfn 53 [(.t 3)]),
  oo 8 (.call false 54 [(.t 6), (.t 7)]),
  oo 4 (.mv (.t 8))])
 .ret))
structure G_f8 (E : Env) : Prop where
  is : Is E 52 2 f8_ac [(4, none)]
  c_f81 : G_f81 E
  c_f9 : G_f9 E
theorem f8_E {E : Env} (h : G_f8 E) (a0 a1 : U) : E 52 [a0, a1] =
 U.noTup a0 fun x1 => U.noTup a1 fun x2 => U.asAgg x1 fun us3 => if 3 = sizes (us3.take 3) then (us3[3]?).bind fun e4 => U.asVar false 1 e4 fun e5 => (E 54 [e5, (.fn 53 [(.vp x2)])]).bind fun t6 => U.asFlat t6 fun t7 => some t7 else none := (h.is _ rfl).trans ((runQ_V rfl).trans (by kernel_rfl))
def f36_b0 : AC :=
 (.seq (rg [oo 10 (.bin .lss (.t 9) (.t 8))])
 (.seq (.cond (.t 10) .skip (.exit 0))
 (.seq (.block 1 (.seq (rg [oo 11 (.iaddr 4 (.t 7) (.t 9)),
  oo 12 (.load true 4 (.t 11)),
  oo 6 (.alloc 6 (.agg [(.int .i64 0), (.int .i64 0), (.nsl 2), (.nsl 2)])),
  ⟨none, .store 4 (.t 6) (.t 12), none⟩])
 (.seq (rg [oo 13 (.faddr 1 1 (.t 6)),
  oo 14 (.load false 1 (.t 13)),
  oo 15 (.faddr 1 1 (.t 3)),
  oo 16 (.load false 1 (.t 15)),
  oo 17 (.bin .eql (.t 14) (.t 16)),
  oo 18 (.mv (.t 17)),
  ⟨some 19, .load true 4 (.t 6), some (18, true)⟩,
  ⟨some 20, .faddr 0 0 (.t 3), some (18, true)⟩,
  ⟨some 21, .load false 1 (.t 20), some (18, true)⟩,
  ⟨some 22, .call false 52 [(.t 19), (.t 21)], some (18, true)⟩,
  oo 23 (.pick (.t 18) (.t 22) (.c (.bool false)))])
 (.cond (.t 23) (.seq (rg [oo 24 (.faddr 0 0 (.t 6)),
  oo 25 (.load false 1 (.t 24)),
  oo 4 (.mv (.t 25))])
 .ret) .skip))))
 (rg [oo 26 (.bin .add (.t 9) (ci 1)),
  oo 9 (.mv (.t 26))]))))
def f36_r0 : AC :=
 (.seq (rg [oo 4 (.mv (ci 0))])
 .ret)
def f36_ac : AC :=
 (.seq (rg [oo 3 (.box false 3 (.t 1)),
  oo 4 (.mv (ci 0))])
 (.seq (.seq (rg [oo 7 (.mv (.t 0)),
  oo 8 (.len false (.t 7)),
  oo 9 (.mv (ci 0))])
 (.block 0 (.loop ⟨[3, 7, 8, 9], [], [(3, false)]⟩ f36_b0)))
 f36_r0))
noncomputable def f36_l0 (E : Env) (x7 : U) (x8 : U) (x9 : U) (b3 : U) : Option U := loopK (roundOf E ⟨[3, 7, 8, 9], [], [(3, false)]⟩ f36_b0 (blockK 0 (seqK (fun s => exec E f36_r0 s (finish [(4, none)])) (finish [(4, none)])))) ([.ptr 3 [], .val x7, .val x8, .val x9], [.box (.val b3)])
theorem f36_l0_eq (E : Env) (x7 : U) (x8 : U) (x9 : U) (b3 : U) : f36_l0 E x7 x8 x9 b3 =
 (U.bin .lss x9 x8).bind fun t3 => U.asBool t3
 (U.asInt x9 fun n4 => U.elemAt 4 x7 n4 fun e5 => U.asVar true 4 e5 fun e6 => if storable (.val e6) = true ∧ e6.size = 4 then U.asAgg e6 fun us7 => if 1 = sizes (us7.take 1) then (us7[1]?).bind fun e8 => U.asVar false 1 e8 fun e9 => U.asAgg b3 fun us10 => if 1 = sizes (us10.take 1) then (us10[1]?).bind fun e11 => U.asVar false 1 e11 fun e12 => (U.bin .eql e9 e12).bind fun t13 => U.asBool t13
 (U.asVar true 4 e6 fun e14 => U.asAgg b3 fun us15 => if 0 = sizes (us15.take 0) then (us15[0]?).bind fun e16 => U.asVar false 1 e16 fun e17 => (E 52 [e14, e17]).bind fun t18 => U.asBool t18
 (U.asAgg e6 fun us19 => if 0 = sizes (us19.take 0) then (us19[0]?).bind fun e20 => U.asVar false 1 e20 fun e21 => some e21 else none)
 ((U.bin .add x9 (.int .i64 1)).bind fun t22 => f36_l0 E x7 x8 t22 b3) else none)
 ((U.bin .add x9 (.int .i64 1)).bind fun t23 => f36_l0 E x7 x8 t23 b3) else none else none else none)
 (some (.int .i64 0)) := (loop_eq E _ _ _ _).trans (by kernel_rfl)
structure G_f36 (E : Env) : Prop where
  is : Is E 249 2 f36_ac [(4, none)]
  c_f8 : G_f8 E
theorem f36_E {E : Env} (h : G_f36 E) (a0 a1 : U) : E 249 [a0, a1] =
 U.noTup a1 fun x1 => (U.lenOf false a0).bind fun n2 => f36_l0 E a0 (.int .i64 (n2 : Int)) (.int .i64 0) x1 := (h.is _ rfl).trans ((runQ_V rfl).trans (by kernel_rfl))
def f19_b2 : AC :=
 (.seq (rg [oo 16 (.bin .lss (.t 15) (.t 14))])
 (.seq (.cond (.t 16) .skip (.exit 0))
 (.seq (.block 1 (.seq (rg [oo 17 (.mv (.t 15)),
  oo 18 (.iaddr 4 (.t 13) (.t 15)),
  oo 19 (.load true 4 (.t 18)),
  oo 4 (.alloc 4 (.agg [(.int .i64 0), (.int .i64 0), (.nsl 2), (.nsl 2)])),
  oo 3 (.mv (.t 17)),
  ⟨none, .store 4 (.t 4) (.t 19), none⟩])
 (.seq (.seq (rg [oo 20 (.load true 4 (.t 4)),
  oo 21 (.call false 250 [(.t 20)]),
  oo 22 (.un .not (.t 21)),
  oo 23 (.mv (.t 22)),
  ⟨some 24, .mv (.t 0), some (23, false)⟩,
  ⟨some 25, .faddr 0 0 (.t 4), some (23, false)⟩,
  ⟨some 26, .load false 1 (.t 25), some (23, false)⟩,
  ⟨some 27, .call false 251 [(.t 24), (.t 26)], some (23, false)⟩,
  ⟨some 28, .mv (.t 3), some (23, false)⟩,
  ⟨some 29, .bin .neq (.t 27) (.t 28), some (23, false)⟩,
  oo 30 (.pick (.t 23) (.c (.bool true)) (.t 29))])
 (.cond (.t 30) (.seq (rg [oo 2 (.mv (.c (.bool false)))])
 .ret) .skip))
 (.seq (.region 30 [oo 31 (.mv (.t 3)),
  oo 32 (.bin .gtr (.t 31) (ci 0)),
  oo 33 (.mv (.t 32)),
  ⟨some 34, .faddr 1 1 (.t 4), some (33, true)⟩,
  ⟨some 35, .load false 1 (.t 34), some (33, true)⟩,
  ⟨some 36, .mv (.t 0), some (33, true)⟩,
  ⟨some 37, .mv (.t 3), some (33, true)⟩,
  ⟨some 38, .bin .sub (.t 37) (ci 1), some (33, true)⟩,
  ⟨some 39, .iaddr 4 (.t 36) (.t 38), some (33, true)⟩,
  ⟨some 40, .faddr 1 1 (.t 39), some (33, true)⟩,
  ⟨some 41, .load false 1 (.t 40), some (33, true)⟩,
  ⟨some 42, .bin .lss (.t 35) (.t 41), some (33, true)⟩,
  ⟨some 43, .mv (.t 42), some (33, true)⟩,
  ⟨some 44, .faddr 1 1 (.t 4), some (43, false)⟩,
  ⟨some 45, .load false 1 (.t 44), some (43, false)⟩,
  ⟨some 46, .mv (.t 0), some (43, false)⟩,
  ⟨some 47, .mv (.t 3), some (43, false)⟩,
  ⟨some 48, .bin .sub (.t 47) (ci 1), some (43, false)⟩,
  ⟨some 49, .iaddr 4 (.t 46) (.t 48), some (43, false)⟩,
  ⟨some 50, .faddr 1 1 (.t 49), some (43, false)⟩,
  ⟨some 51, .load false 1 (.t 50), some (43, false)⟩,
  ⟨some 52, .bin .eql (.t 45) (.t 51), some (43, false)⟩,
  ⟨some 53, .mv (.t 52), some (43, false)⟩,
  ⟨some 54, .faddr 3 3 (.t 4), some (53, true)⟩,
  ⟨some 55, .load false 1 (.t 54), some (53, true)⟩,
  ⟨some 56, .len false (.t 55), some (53, true)⟩,
  ⟨some 57, .bin .gtr (.t 56) (ci 0), some (53, true)⟩,
  ⟨some 58, .pick (.t 53) (.t 57) (.c (.bool false)), some (43, false)⟩,
  ⟨some 59, .pick (.t 43) (.c (.bool true)) (.t 58), some (33, true)⟩,
  oo 60 (.pick (.t 33) (.t 59) (.c (.bool false)))])
 (.cond (.t 60) (.seq (rg [oo 2 (.mv (.c (.bool false)))])
 .ret) .skip)))))
 (rg [oo 61 (.bin .add (.t 15) (ci 1)),
  oo 15 (.mv (.t 61))]))))
def f19_b1 : AC :=
 (.seq (rg [oo 72 (.bin .lss (.t 71) (.t 70))])
 (.seq (.cond (.t 72) .skip (.exit 4))
 (.seq (.block 5 (.seq (rg [oo 73 (.iaddr 2 (.t 69) (.t 71)),
  oo 74 (.load true 2 (.t 73)),
  oo 8 (.alloc 8 (.agg [(.int .i64 0), (.int .i64 0)])),
  ⟨none, .store 2 (.t 8) (.t 74), none⟩])
 (.seq (rg [oo 75 (.mv (.t 0)),
  oo 76 (.load true 2 (.t 8)),
  oo 77 (.call false 249 [(.t 75), (.t 76)]),
  oo 9 (.mv (.t 77))])
 (.seq (rg [oo 78 (.mv (.t 9)),
  oo 79 (.faddr 0 0 (.t 6)),
  oo 80 (.load false 1 (.t 79)),
  oo 81 (.bin .eql (.t 78) (.t 80)),
  oo 82 (.mv (.t 81)),
  ⟨some 83, .faddr 1 1 (.t 8), some (82, false)⟩,
  ⟨some 84, .load false 1 (.t 83), some (82, false)⟩,
  ⟨some 85, .bin .gtr (.t 84) (ci 0), some (82, false)⟩,
  ⟨some 86, .mv (.t 85), some (82, false)⟩,
  ⟨some 87, .mv (.t 9), some (86, true)⟩,
  ⟨some 88, .bin .eql (.t 87) (ci 0), some (86, true)⟩,
  ⟨some 89, .pick (.t 86) (.t 88) (.c (.bool false)), some (82, false)⟩,
  oo 90 (.pick (.t 82) (.c (.bool true)) (.t 89))])
 (.cond (.t 90) (.seq (rg [oo 2 (.mv (.c (.bool false)))])
 .ret) .skip)))))
 (rg [oo 91 (.bin .add (.t 71) (ci 1)),
  oo 71 (.mv (.t 91))]))))
def f19_r0 : AC :=
 (rg [oo 92 (.bin .add (.t 64) (ci 1)),
  oo 64 (.mv (.t 92))])
def f19_b0 : AC :=
 (.seq (rg [oo 65 (.bin .lss (.t 64) (.t 63))])
 (.seq (.cond (.t 65) .skip (.exit 2))
 (.seq (.block 3 (.seq (rg [oo 66 (.iaddr 4 (.t 62) (.t 64)),
  oo 67 (.load true 4 (.t 66)),
  oo 6 (.alloc 6 (.agg [(.int .i64 0), (.int .i64 0), (.nsl 2), (.nsl 2)])),
  ⟨none, .store 4 (.t 6) (.t 67), none⟩])
 (.seq (rg [oo 68 (.faddr 2 2 (.t 6)),
  oo 69 (.load false 1 (.t 68)),
  oo 70 (.len false (.t 69)),
  oo 71 (.mv (ci 0))])
 (.block 4 (.loop ⟨[0, 6, 62, 63, 64, 69, 70, 71], [], [(6, false)]⟩ f19_b1)))))
 f19_r0)))
def f19_r1 : AC :=
 (.seq (rg [oo 2 (.mv (.c (.bool true)))])
 .ret)
def f19_r2 : AC :=
 (.seq (.seq (rg [oo 62 (.mv (.t 0)),
  oo 63 (.len false (.t 62)),
  oo 64 (.mv (ci 0))])
 (.block 2 (.loop ⟨[0, 62, 63, 64], [], []⟩ f19_b0)))
 f19_r1)
def f19_ac : AC :=
 (.seq (rg [oo 2 (.mv (.c (.bool false)))])
 (.seq (.seq (rg [oo 10 (.mv (.t 0)),
  oo 11 (.len false (.t 10)),
  oo 12 (.bin .gtr (.t 11) (ci 9))])
 (.cond (.t 12) (.seq (rg [oo 2 (.mv (.c (.bool false)))])
 .ret) .skip))
 (.seq (.seq (rg [oo 13 (.mv (.t 0)),
  oo 14 (.len false (.t 13)),
  oo 15 (.mv (ci 0))])
 (.block 0 (.loop ⟨[0, 13, 14, 15], [], []⟩ f19_b2)))
 f19_r2)))
noncomputable def f19_l2 (E : Env) (x0 : U) (x13 : U) (x14 : U) (x15 : U) : Option U := loopK (roundOf E ⟨[0, 13, 14, 15], [], []⟩ f19_b2 (blockK 0 (seqK (fun s => exec E f19_r2 s (finish [(2, none)])) (finish [(2, none)])))) ([.val x0, .val x13, .val x14, .val x15], [])
noncomputable def f19_l0 (E : Env) (x0 : U) (x62 : U) (x63 : U) (x64 : U) : Option U := loopK (roundOf E ⟨[0, 62, 63, 64], [], []⟩ f19_b0 (blockK 2 (seqK (fun s => exec E f19_r1 s (finish [(2, none)])) (finish [(2, none)])))) ([.val x0, .val x62, .val x63, .val x64], [])
noncomputable def f19_l1 (E : Env) (x0 : U) (x62 : U) (x63 : U) (x64 : U) (x69 : U) (x70 : U) (x71 : U) (b6 : U) : Option U := loopK (roundOf E ⟨[0, 6, 62, 63, 64, 69, 70, 71], [], [(6, false)]⟩ f19_b1 (blockK 4 (blockK 3 (seqK (fun s => exec E f19_r0 s (roundK ⟨[0, 62, 63, 64], [], []⟩ (loopK (roundOf E ⟨[0, 62, 63, 64], [], []⟩ f19_b0 (blockK 2 (seqK (fun s => exec E f19_r1 s (finish [(2, none)])) (finish [(2, none)]))))) (blockK 2 (seqK (fun s => exec E f19_r1 s (finish [(2, none)])) (finish [(2, none)]))))) (roundK ⟨[0, 62, 63, 64], [], []⟩ (loopK (roundOf E ⟨[0, 62, 63, 64], [], []⟩ f19_b0 (blockK 2 (seqK (fun s => exec E f19_r1 s (finish [(2, none)])) (finish [(2, none)]))))) (blockK 2 (seqK (fun s => exec E f19_r1 s (finish [(2, none)])) (finish [(2, none)])))))))) ([.val x0, .ptr 6 [], .val x62, .val x63, .val x64, .val x69, .val x70, .val x71], [.box (.val b6)])
theorem f19_l2_eq (E : Env) (x0 : U) (x13 : U) (x14 : U) (x15 : U) : f19_l2 E x0 x13 x14 x15 =
 (U.bin .lss x15 x14).bind fun t4 => U.asBool t4
 (U.asInt x15 fun n5 => U.elemAt 4 x13 n5 fun e6 => U.asVar true 4 e6 fun e7 => if storable (.val e7) = true ∧ e7.size = 4 then U.asVar true 4 e7 fun e8 => (E 250 [e8]).bind fun t9 => (U.un .not t9).bind fun t10 => U.asBool t10
 (some (.bool false))
 (U.asAgg e7 fun us11 => if 0 = sizes (us11.take 0) then (us11[0]?).bind fun e12 => U.asVar false 1 e12 fun e13 => (E 251 [x0, e13]).bind fun t14 => (U.bin .neq t14 x15).bind fun t15 => U.asBool t15
 (some (.bool false))
 ((U.bin .gtr x15 (.int .i64 0)).bind fun t16 => U.asBool t16
 (U.asAgg e7 fun us17 => if 1 = sizes (us17.take 1) then (us17[1]?).bind fun e18 => U.asVar false 1 e18 fun e19 => (U.bin .sub x15 (.int .i64 1)).bind fun t20 => U.asInt t20 fun n21 => U.elemAt 4 x0 n21 fun e22 => U.fieldAt 1 1 e22 fun f23 => U.asVar false 1 f23 fun e24 => (U.bin .lss e19 e24).bind fun t25 => U.asBool t25
 (some (.bool false))
 (U.asAgg e7 fun us26 => if 1 = sizes (us26.take 1) then (us26[1]?).bind fun e27 => U.asVar false 1 e27 fun e28 => (U.bin .sub x15 (.int .i64 1)).bind fun t29 => U.asInt t29 fun n30 => U.elemAt 4 x0 n30 fun e31 => U.fieldAt 1 1 e31 fun f32 => U.asVar false 1 f32 fun e33 => (U.bin .eql e28 e33).bind fun t34 => U.asBool t34
 (U.asAgg e7 fun us35 => if 3 = sizes (us35.take 3) then (us35[3]?).bind fun e36 => U.asVar false 1 e36 fun e37 => (U.lenOf false e37).bind fun n38 => (U.bin .gtr (.int .i64 (n38 : Int)) (.int .i64 0)).bind fun t39 => U.asBool t39
 (some (.bool false))
 ((U.bin .add x15 (.int .i64 1)).bind fun t40 => f19_l2 E x0 x13 x14 t40) else none)
 ((U.bin .add x15 (.int .i64 1)).bind fun t41 => f19_l2 E x0 x13 x14 t41) else none) else none)
 ((U.bin .add x15 (.int .i64 1)).bind fun t42 => f19_l2 E x0 x13 x14 t42)) else none) else none)
 ((U.lenOf false x0).bind fun n43 => f19_l0 E x0 x0 (.int .i64 (n43 : Int)) (.int .i64 0)) := (loop_eq E _ _ _ _).trans (by kernel_rfl)
theorem f19_l0_eq (E : Env) (x0 : U) (x62 : U) (x63 : U) (x64 : U) : f19_l0 E x0 x62 x63 x64 =
 (U.bin .lss x64 x63).bind fun t44 => U.asBool t44
 (U.asInt x64 fun n45 => U.elemAt 4 x62 n45 fun e46 => U.asVar true 4 e46 fun e47 => if storable (.val e47) = true ∧ e47.size = 4 then U.asAgg e47 fun us48 => if 2 = sizes (us48.take 2) then (us48[2]?).bind fun e49 => U.asVar false 1 e49 fun e50 => (U.lenOf false e50).bind fun n51 => f19_l1 E x0 x62 x63 x64 e50 (.int .i64 (n51 : Int)) (.int .i64 0) e47 else none else none)
 (some (.bool true)) := (loop_eq E _ _ _ _).trans (by kernel_rfl)
theorem f19_l1_eq (E : Env) (x0 : U) (x62 : U) (x63 : U) (x64 : U) (x69 : U) (x70 : U) (x71 : U) (b6 : U) : f19_l1 E x0 x62 x63 x64 x69 x70 x71 b6 =
 (U.bin .lss x71 x70).bind fun t52 => U.asBool t52
 (U.asInt x71 fun n53 => U.elemAt 2 x69 n53 fun e54 => U.asVar true 2 e54 fun e55 => if storable (.val e55) = true ∧ e55.size = 2 then U.asVar true 2 e55 fun e56 => (E 249 [x0, e56]).bind fun t57 => U.asAgg b6 fun us58 => if 0 = sizes (us58.take 0) then (us58[0]?).bind fun e59 => U.asVar false 1 e59 fun e60 => (U.bin .eql t57 e60).bind fun t61 => U.asBool t61
 (some (.bool false))
 (U.asAgg e55 fun us62 => if 1 = sizes (us62.take 1) then (us62[1]?).bind fun e63 => U.asVar false 1 e63 fun e64 => (U.bin .gtr e64 (.int .i64 0)).bind fun t65 => U.asBool t65
 ((U.bin .eql t57 (.int .i64 0)).bind fun t66 => U.asBool t66
 (some (.bool false))
 ((U.bin .add x71 (.int .i64 1)).bind fun t67 => f19_l1 E x0 x62 x63 x64 x69 x70 t67 b6))
 ((U.bin .add x71 (.int .i64 1)).bind fun t68 => f19_l1 E x0 x62 x63 x64 x69 x70 t68 b6) else none) else none else none)
 ((U.bin .add x64 (.int .i64 1)).bind fun t69 => f19_l0 E x0 x62 x63 t69) := (loop_eq E _ _ _ _).trans (by kernel_rfl)
structure G_f19 (E : Env) : Prop where
  is : Is E 247 1 f19_ac [(2, none)]
  c_f10 : G_f10 E
  c_f43 : G_f43 E
  c_f36 : G_f36 E
theorem f19_E {E : Env} (h : G_f19 E) (a0 : U) : E 247 [a0] =
 (U.lenOf false a0).bind fun n1 => (U.bin .gtr (.int .i64 (n1 : Int)) (.int .i64 9)).bind fun t2 => U.asBool t2
 (some (.bool false))
 ((U.lenOf false a0).bind fun n3 => f19_l2 E a0 a0 (.int .i64 (n3 : Int)) (.int .i64 0)) := (h.is _ rfl).trans ((runQ_V rfl).trans (by kernel_rfl))
def f3_ac : AC :=
 (.seq (rg [oo 2 (.box false 2 (.t 0)),
  oo 3 (.mv (.c (.bool false)))])
 (.seq (rg [oo 4 (.faddr 1 1 (.t 2)),
  oo 5 (.load false 1 (.t 4)),
  oo 6 (.faddr 1 1 (.t 1)),
  oo 7 (.load false 1 (.t 6)),
  oo 8 (.bin .gtr (.t 5) (.t 7)),
  oo 3 (.mv (.t 8))])
 .ret))
structure G_f3 (E : Env) : Prop where
  is : Is E 294 2 f3_ac [(3, none)]
theorem f3_E {E : Env} (h : G_f3 E) (a0 a1 : U) : E 294 [a0, a1] =
 U.noTup a0 fun x1 => U.asAgg x1 fun us2 => if 1 = sizes (us2.take 1) then (us2[1]?).bind fun e3 => U.asVar false 1 e3 fun e4 => U.asVp a1 fun v5 => U.fieldAt 1 1 v5 fun f6 => U.asVar false 1 f6 fun e7 => (U.bin .gtr e4 e7).bind fun t8 => some t8 else none := (h.is _ rfl).trans ((runQ_V rfl).trans (by kernel_rfl))
def f75_ac : AC :=
 (.seq (rg [oo 2 (.mv (.c (.nsl 2)))])
 (.seq (.seq (rg [oo 3 (.mv (.t 0)),
  oo 4 (.eqnil false (.t 3))])
 (.cond (.t 4) (.seq (rg [oo 2 (.mv (.c (.nsl 2)))])
 .ret) .skip))
 (.seq (rg [oo 5 (.bslice 1 5 2 0 (.agg [(.int .i64 0), (.int .i64 0)]) []),
  oo 6 (.mv (.t 0)),
  oo 7 (.append false 7 2 16 (.t 5) (.t 6)),
  oo 2 (.mv (.t 7))])
 .ret)))
theorem f75_eq (E : Env) (a0 : U) : run E f75_ac [(2, none)] [a0] =
 (U.isNil a0).bind fun q1 => U.asBool (.bool q1)
 (some (.nsl 2))
 ((U.elems 2 a0).bind fun ys2 => if 2 = 2 ∧ 2 = 2 ∧ ((([] : List U)).length + (ys2 : List U).length) * 16 ≤ 140737488355328 then some (.sl 2 (([] : List U) ++ ys2)) else none) := by kernel_rfl
theorem f75_F_eq (E : Env) (a0 : U) : exec E f75_ac (start [a0]) (finishF [(2, none)]) =
 (U.isNil a0).bind fun q1 => U.asBool (.bool q1)
 (some (.sl 2 []))
 ((U.elems 2 a0).bind fun ys2 => if 2 = 2 ∧ 2 = 2 ∧ ((([] : List U)).length + (ys2 : List U).length) * 16 ≤ 140737488355328 then if U.flat.flats (([] : List U) ++ ys2) = true then some (.sl 2 (([] : List U) ++ ys2)) else none else none) := by kernel_rfl
theorem f75_ok : CloneOK f75_ac 2 16 where
  v := fun E u us h => by
    rw [f75_eq]
    simp [U.isNil, U.elems, h]
  f := fun E u us h hf => by
    rw [f75_F_eq]
    simp [U.isNil, U.elems, h, hf]
  vn := fun E => by kernel_rfl
  fn := fun E => by kernel_rfl
  vt := fun E => by kernel_rfl
  vf := fun E => by kernel_rfl
  ft := fun E => by kernel_rfl
  ff := fun E => by kernel_rfl
def f76_ac : AC :=
 (.seq (rg [oo 2 (.mv (.c (.nsl 2)))])
 (.seq (.seq (rg [oo 3 (.mv (.t 0)),
  oo 4 (.eqnil false (.t 3))])
 (.cond (.t 4) (.seq (rg [oo 2 (.mv (.c (.nsl 2)))])
 .ret) .skip))
 (.seq (rg [oo 5 (.bslice 1 5 2 0 (.agg [(.int .i64 0), (.int .i64 0)]) []),
  oo 6 (.mv (.t 0)),
  oo 7 (.append false 7 2 16 (.t 5) (.t 6)),
  oo 2 (.mv (.t 7))])
 .ret)))
theorem f76_eq (E : Env) (a0 : U) : run E f76_ac [(2, none)] [a0] =
 (U.isNil a0).bind fun q1 => U.asBool (.bool q1)
 (some (.nsl 2))
 ((U.elems 2 a0).bind fun ys2 => if 2 = 2 ∧ 2 = 2 ∧ ((([] : List U)).length + (ys2 : List U).length) * 16 ≤ 140737488355328 then some (.sl 2 (([] : List U) ++ ys2)) else none) := by kernel_rfl
theorem f76_F_eq (E : Env) (a0 : U) : exec E f76_ac (start [a0]) (finishF [(2, none)]) =
 (U.isNil a0).bind fun q1 => U.asBool (.bool q1)
 (some (.sl 2 []))
 ((U.elems 2 a0).bind fun ys2 => if 2 = 2 ∧ 2 = 2 ∧ ((([] : List U)).length + (ys2 : List U).length) * 16 ≤ 140737488355328 then if U.flat.flats (([] : List U) ++ ys2) = true then some (.sl 2 (([] : List U) ++ ys2)) else none else none) := by kernel_rfl
theorem f76_ok : CloneOK f76_ac 2 16 where
  v := fun E u us h => by
    rw [f76_eq]
    simp [U.isNil, U.elems, h]
  f := fun E u us h hf => by
    rw [f76_F_eq]
    simp [U.isNil, U.elems, h, hf]
  vn := fun E => by kernel_rfl
  fn := fun E => by kernel_rfl
  vt := fun E => by kernel_rfl
  vf := fun E => by kernel_rfl
  ft := fun E => by kernel_rfl
  ff := fun E => by kernel_rfl
def f40_ac : AC :=
 (.seq (rg [oo 1 (.boxN 4 1 (.t 0)),
  oo 2 (.alloc 2 (.agg [(.int .i64 0), (.int .i64 0), (.nsl 2), (.nsl 2)]))])
 (.seq (.regN 7 [5, 8] [(0, 5), (1, 5), (3, 5), (4, 5), (0, 8), (1, 8), (2, 8), (3, 8), (4, 8), (6, 8)] [(.t 3), (.t 6)] [oo 3 (.faddr 2 2 (.t 1)),
  oo 4 (.load false 1 (.t 3)),
  oo 5 (.callF 5 false [(.sl 2)] 224 [(.t 4)]),
  oo 6 (.faddr 3 3 (.t 1)),
  oo 7 (.load false 1 (.t 6)),
  oo 8 (.callF 8 false [(.sl 2)] 225 [(.t 7)]),
  oo 9 (.faddr 2 2 (.t 1)),
  ⟨none, .storeM 3000 1 (.t 9) (.t 5), none⟩,
  oo 10 (.faddr 3 3 (.t 1)),
  ⟨none, .storeM 3002 1 (.t 10) (.t 8), none⟩])
 (.seq (rg [oo 11 (.loadO (.agg [.int, .int, (.sl 2), (.sl 2)]) (.t 1)),
  ⟨none, .storeM 3001 4 (.t 2) (.t 11), none⟩])
 .ret)))
structure G_f40 (E : Env) : Prop where
  is : Is E 100292 1 f40_ac [(2, some (true, 4))]
  c_f75 : IsClone E 224 2 16
  c_f76 : IsClone E 225 2 16
theorem f40_E {E : Env} (h : G_f40 E) (a0 : U) : E 100292 [a0] =
 U.asAgg a0 fun us1 => (match us1 with
 | u2 :: us3 => ((match us3 with
 | u4 :: us5 => ((match us5 with
 | u6 :: us7 => ((match us7 with
 | u8 :: us9 => ((match us9 with
 | [] => (if 2 = sizes [u2, u4] then U.asVar false 1 u6 fun e10 => (E 100224 [e10]).bind fun t11 => U.noTup t11 fun x12 => U.asSlK 2 x12 fun us13 => if 3 = sizes [u2, u4, u6] then U.asVar false 1 u8 fun e14 => (E 100225 [e14]).bind fun t15 => U.noTup t15 fun x16 => U.asSlK 2 x16 fun us17 => if 2 = sizes [u2, u4] then if 2 = sizes [u2, u4] then if u6.size = u6.size then if 2 = dsizes [.val u2, .val u4] then if u6.size = 1 then if 3 = dsizes [.val u2, .val u4, .own (.sl 2 us13)] then if 3 = dsizes [.val u2, .val u4, .own (.sl 2 us13)] then if u8.size = u8.size then if 3 = dsizes [.val u2, .val u4, .own (.sl 2 us13)] then if u8.size = 1 then U.asInt u2 fun n18 => U.asInt u4 fun n19 => if 2 = dsizes [.val u2, .val u4] then if 2 = dsizes [.val u2, .val u4] then if 3 = dsizes [.val u2, .val u4, .junk 1] then if 3 = dsizes [.val u2, .val u4, .junk 1] then some (.agg [(.int .i64 n18), (.int .i64 n19), (.sl 2 us13), (.sl 2 us17)]) else none else none else none else none else none else none else none else none else none else none else none else none else none else none else none else none)
 | _ => none))
 | [] => none))
 | [] => none))
 | [] => none))
 | [] => none) := (h.is _ rfl).trans ((runQ_F rfl).trans (by kernel_rfl))
def f41_b0 : AC :=
 (.seq (rg [oo 10 (.bin .lss (.t 9) (.t 8))])
 (.seq (.cond (.t 10) .skip (.exit 0))
 (.seq (.block 1 (.seq (rg [oo 11 (.iaddr 4 (.t 7) (.t 9)),
  oo 12 (.load true 4 (.t 11)),
  oo 5 (.alloc 5 (.agg [(.int .i64 0), (.int .i64 0), (.nsl 2), (.nsl 2)])),
  ⟨none, .store 4 (.t 5) (.t 12), none⟩])
 (rg [oo 13 (.mv (.t 3)),
  oo 14 (.load true 4 (.t 5)),
  oo 15 (.callF 15 false [(.agg [.int, .int, (.sl 2), (.sl 2)])] 292 [(.t 14)]),
  oo 16 (.bslice 2 16 4 1 (.agg [(.int .i64 0), (.int .i64 0), (.nsl 2), (.nsl 2)]) [(0, (.t 15))]),
  oo 17 (.append true 17 4 64 (.t 13) (.t 16)),
  oo 3 (.mv (.t 17))])))
 (rg [oo 18 (.bin .add (.t 9) (ci 1)),
  oo 9 (.mv (.t 18))]))))
def f41_r0 : AC :=
 (.seq (rg [oo 19 (.mv (.t 3)),
  oo 2 (.mv (.t 19))])
 .ret)
def f41_ac : AC :=
 (.seq (rg [oo 2 (.mv (.c (.nsl 4)))])
 (.seq (rg [oo 6 (.bslice 2 6 4 0 (.agg [(.int .i64 0), (.int .i64 0), (.nsl 2), (.nsl 2)]) []),
  oo 3 (.mv (.t 6))])
 (.seq (.seq (rg [oo 7 (.mv (.t 0)),
  oo 8 (.len false (.t 7)),
  oo 9 (.mv (ci 0))])
 (.block 0 (.loop ⟨[7, 8, 9], [(3, 4, true)], []⟩ f41_b0)))
 f41_r0)))
noncomputable def f41_l0 (E : Env) (x7 : U) (x8 : U) (x9 : U) (c3 : List U) : Option U := loopK (roundOf E ⟨[7, 8, 9], [(3, 4, true)], []⟩ f41_b0 (blockK 0 (seqK (fun s => exec E f41_r0 s (finishF [(2, none)])) (finishF [(2, none)])))) ([.val x7, .val x8, .val x9], [.vir (.own (.sl 4 c3))])
theorem f41_l0_eq (E : Env) (x7 : U) (x8 : U) (x9 : U) (c3 : List U) : f41_l0 E x7 x8 x9 c3 =
 (U.bin .lss x9 x8).bind fun t2 => U.asBool t2
 (U.asInt x9 fun n3 => U.elemAt 4 x7 n3 fun e4 => U.asVar true 4 e4 fun e5 => if storable (.val e5) = true ∧ e5.size = 4 then U.asVar true 4 e5 fun e6 => (E 100292 [e6]).bind fun t7 => U.noTup t7 fun x10 => U.asAgg x10 fun us11 => (match us11 with
 | u12 :: us13 => (U.asInt u12 fun n14 => (match us13 with
 | u15 :: us16 => (U.asInt u15 fun n17 => (match us16 with
 | u18 :: us19 => (U.asSlK 2 u18 fun us20 => (match us19 with
 | u21 :: us22 => (U.asSlK 2 u21 fun us23 => (match us22 with
 | [] => (if ((c3).length + ([(.agg [(.int .i64 n14), (.int .i64 n17), (.sl 2 us20), (.sl 2 us23)])] : List U).length) * 64 ≤ 140737488355328 then (U.bin .add x9 (.int .i64 1)).bind fun t24 => f41_l0 E x7 x8 t24 (c3 ++ ([(.agg [(.int .i64 n14), (.int .i64 n17), (.sl 2 us20), (.sl 2 us23)])] : List U)) else none)
 | _ => none))
 | [] => none))
 | [] => none))
 | [] => none))
 | [] => none) else none)
 (some (.sl 4 c3)) := (loop_eq E _ _ _ _).trans (by kernel_rfl)
structure G_f41 (E : Env) : Prop where
  is : Is E 100295 1 f41_ac [(2, none)]
  c_f40 : G_f40 E
theorem f41_E {E : Env} (h : G_f41 E) (a0 : U) : E 100295 [a0] =
 (U.lenOf false a0).bind fun n1 => f41_l0 E a0 (.int .i64 (n1 : Int)) (.int .i64 0) [] := (h.is _ rfl).trans ((runQ_F rfl).trans (by kernel_rfl))
def f56_b0 : AC :=
 (.seq (.seq (rg [oo 6 (.mv (.t 5)),
  oo 7 (.mv (.t 0)),
  oo 8 (.len false (.t 7)),
  oo 9 (.bin .lss (.t 6) (.t 8))])
 (.cond (.t 9) .skip (.exit 0)))
 (.seq (.block 1 (.seq (.seq (rg [oo 12 (.mv (.t 0)),
  oo 13 (.mv (.t 5)),
  oo 14 (.iaddr 2 (.t 12) (.t 13)),
  oo 15 (.faddr 0 0 (.t 14)),
  oo 16 (.load false 1 (.t 15)),
  oo 17 (.mv (.t 1)),
  oo 18 (.bin .neq (.t 16) (.t 17))])
 (.cond (.t 18) (.seq (rg [oo 4 (.mv (ci (-1)))])
 .ret) .skip))
 (.seq (rg [oo 19 (.mv (.t 1)),
  oo 20 (.bin .add (.t 19) (ci 1)),
  oo 1 (.mv (.t 20))])
 (.seq (.seq (rg [oo 21 (.mv (.t 0)),
  oo 22 (.mv (.t 5)),
  oo 23 (.iaddr 2 (.t 21) (.t 22)),
  oo 24 (.faddr 1 1 (.t 23)),
  oo 25 (.load false 1 (.t 24)),
  oo 26 (.mv (.t 1)),
  oo 27 (.bin .neq (.t 25) (.t 26))])
 (.cond (.t 27) (.seq (rg [oo 4 (.mv (ci (-1)))])
 .ret) .skip))
 (rg [oo 28 (.mv (.t 1)),
  oo 29 (.bin .add (.t 28) (ci 1)),
  oo 1 (.mv (.t 29))])))))
 (rg [oo 10 (.mv (.t 5)),
  oo 11 (.bin .add (.t 10) (ci 1)),
  oo 5 (.mv (.t 11))])))
def f56_r0 : AC :=
 (.seq (rg [oo 30 (.mv (.t 1)),
  oo 4 (.mv (.t 30))])
 .ret)
def f56_ac : AC :=
 (.seq (rg [oo 4 (.mv (ci 0))])
 (.seq (.seq (rg [oo 5 (.mv (ci 0))])
 (.block 0 (.loop ⟨[0, 1, 5], [], []⟩ f56_b0)))
 f56_r0))
noncomputable def f56_l0 (E : Env) (x0 : U) (x1 : U) (x5 : U) : Option U := loopK (roundOf E ⟨[0, 1, 5], [], []⟩ f56_b0 (blockK 0 (seqK (fun s => exec E f56_r0 s (finish [(4, none)])) (finish [(4, none)])))) ([.val x0, .val x1, .val x5], [])
theorem f56_l0_eq (E : Env) (x0 : U) (x1 : U) (x5 : U) : f56_l0 E x0 x1 x5 =
 (U.lenOf false x0).bind fun n1 => (U.bin .lss x5 (.int .i64 (n1 : Int))).bind fun t2 => U.asBool t2
 (U.asInt x5 fun n3 => U.elemAt 2 x0 n3 fun e4 => U.fieldAt 0 0 e4 fun f5 => U.asVar false 1 f5 fun e6 => (U.bin .neq e6 x1).bind fun t7 => U.asBool t7
 (some (.int .i64 (-1)))
 ((U.bin .add x1 (.int .i64 1)).bind fun t8 => U.asInt x5 fun n9 => U.elemAt 2 x0 n9 fun e10 => U.fieldAt 1 1 e10 fun f11 => U.asVar false 1 f11 fun e12 => (U.bin .neq e12 t8).bind fun t13 => U.asBool t13
 (some (.int .i64 (-1)))
 ((U.bin .add t8 (.int .i64 1)).bind fun t14 => (U.bin .add x5 (.int .i64 1)).bind fun t15 => f56_l0 E x0 t14 t15)))
 (some x1) := (loop_eq E _ _ _ _).trans (by kernel_rfl)
structure G_f56 (E : Env) : Prop where
  is : Is E 92 2 f56_ac [(4, none)]
theorem f56_E {E : Env} (h : G_f56 E) (a0 a1 : U) : E 92 [a0, a1] =
 f56_l0 E a0 a1 (.int .i64 0) := (h.is _ rfl).trans ((runQ_V rfl).trans (by kernel_rfl))
def f57_b0 : AC :=
 (.seq (.seq (rg [oo 6 (.mv (.t 5)),
  oo 7 (.mv (.t 0)),
  oo 8 (.len false (.t 7)),
  oo 9 (.bin .lss (.t 6) (.t 8))])
 (.cond (.t 9) .skip (.exit 0)))
 (.seq (.block 1 (.seq (.seq (rg [oo 12 (.mv (.t 0)),
  oo 13 (.mv (.t 5)),
  oo 14 (.iaddr 2 (.t 12) (.t 13)),
  oo 15 (.faddr 0 0 (.t 14)),
  oo 16 (.load false 1 (.t 15)),
  oo 17 (.mv (.t 1)),
  oo 18 (.bin .neq (.t 16) (.t 17))])
 (.cond (.t 18) (.seq (rg [oo 4 (.mv (ci (-1)))])
 .ret) .skip))
 (.seq (rg [oo 19 (.mv (.t 1)),
  oo 20 (.bin .add (.t 19) (ci 1)),
  oo 1 (.mv (.t 20))])
 (.seq (.seq (rg [oo 21 (.mv (.t 0)),
  oo 22 (.mv (.t 5)),
  oo 23 (.iaddr 2 (.t 21) (.t 22)),
  oo 24 (.faddr 1 1 (.t 23)),
  oo 25 (.load false 1 (.t 24)),
  oo 26 (.mv (.t 1)),
  oo 27 (.bin .neq (.t 25) (.t 26))])
 (.cond (.t 27) (.seq (rg [oo 4 (.mv (ci (-1)))])
 .ret) .skip))
 (rg [oo 28 (.mv (.t 1)),
  oo 29 (.bin .add (.t 28) (ci 1)),
  oo 1 (.mv (.t 29))])))))
 (rg [oo 10 (.mv (.t 5)),
  oo 11 (.bin .add (.t 10) (ci 1)),
  oo 5 (.mv (.t 11))])))
def f57_r0 : AC :=
 (.seq (rg [oo 30 (.mv (.t 1)),
  oo 4 (.mv (.t 30))])
 .ret)
def f57_ac : AC :=
 (.seq (rg [oo 4 (.mv (ci 0))])
 (.seq (.seq (rg [oo 5 (.mv (ci 0))])
 (.block 0 (.loop ⟨[0, 1, 5], [], []⟩ f57_b0)))
 f57_r0))
noncomputable def f57_l0 (E : Env) (x0 : U) (x1 : U) (x5 : U) : Option U := loopK (roundOf E ⟨[0, 1, 5], [], []⟩ f57_b0 (blockK 0 (seqK (fun s => exec E f57_r0 s (finish [(4, none)])) (finish [(4, none)])))) ([.val x0, .val x1, .val x5], [])
theorem f57_l0_eq (E : Env) (x0 : U) (x1 : U) (x5 : U) : f57_l0 E x0 x1 x5 =
 (U.lenOf false x0).bind fun n1 => (U.bin .lss x5 (.int .i64 (n1 : Int))).bind fun t2 => U.asBool t2
 (U.asInt x5 fun n3 => U.elemAt 2 x0 n3 fun e4 => U.fieldAt 0 0 e4 fun f5 => U.asVar false 1 f5 fun e6 => (U.bin .neq e6 x1).bind fun t7 => U.asBool t7
 (some (.int .i64 (-1)))
 ((U.bin .add x1 (.int .i64 1)).bind fun t8 => U.asInt x5 fun n9 => U.elemAt 2 x0 n9 fun e10 => U.fieldAt 1 1 e10 fun f11 => U.asVar false 1 f11 fun e12 => (U.bin .neq e12 t8).bind fun t13 => U.asBool t13
 (some (.int .i64 (-1)))
 ((U.bin .add t8 (.int .i64 1)).bind fun t14 => (U.bin .add x5 (.int .i64 1)).bind fun t15 => f57_l0 E x0 t14 t15)))
 (some x1) := (loop_eq E _ _ _ _).trans (by kernel_rfl)
structure G_f57 (E : Env) : Prop where
  is : Is E 235 2 f57_ac [(4, none)]
theorem f57_E {E : Env} (h : G_f57 E) (a0 a1 : U) : E 235 [a0, a1] =
 f57_l0 E a0 a1 (.int .i64 0) := (h.is _ rfl).trans ((runQ_V rfl).trans (by kernel_rfl))
def f55_b0 : AC :=
 (.seq (.seq (rg [oo 6 (.mv (.t 5)),
  oo 7 (.mv (.t 0)),
  oo 8 (.len false (.t 7)),
  oo 9 (.bin .lss (.t 6) (.t 8))])
 (.cond (.t 9) .skip (.exit 0)))
 (.seq (.block 1 (.seq (.seq (rg [oo 12 (.mv (.t 0)),
  oo 13 (.mv (.t 5)),
  oo 14 (.iaddr 4 (.t 12) (.t 13)),
  oo 15 (.faddr 0 0 (.t 14)),
  oo 16 (.load false 1 (.t 15)),
  oo 17 (.mv (.t 1)),
  oo 18 (.bin .neq (.t 16) (.t 17))])
 (.cond (.t 18) (.seq (rg [oo 4 (.mv (ci (-1)))])
 .ret) .skip))
 (.seq (rg [oo 19 (.mv (.t 1)),
  oo 20 (.bin .add (.t 19) (ci 1)),
  oo 1 (.mv (.t 20))])
 (.seq (.seq (rg [oo 21 (.mv (.t 0)),
  oo 22 (.mv (.t 5)),
  oo 23 (.iaddr 4 (.t 21) (.t 22)),
  oo 24 (.faddr 1 1 (.t 23)),
  oo 25 (.load false 1 (.t 24)),
  oo 26 (.mv (.t 1)),
  oo 27 (.bin .neq (.t 25) (.t 26))])
 (.cond (.t 27) (.seq (rg [oo 4 (.mv (ci (-1)))])
 .ret) .skip))
 (.seq (rg [oo 28 (.mv (.t 1)),
  oo 29 (.bin .add (.t 28) (ci 1)),
  oo 1 (.mv (.t 29))])
 (.seq (rg [oo 30 (.mv (.t 0)),
  oo 31 (.mv (.t 5)),
  oo 32 (.iaddr 4 (.t 30) (.t 31)),
  oo 33 (.faddr 2 2 (.t 32)),
  oo 34 (.load false 1 (.t 33)),
  oo 35 (.mv (.t 1)),
  oo 36 (.call false 92 [(.t 34), (.t 35)]),
  oo 1 (.mv (.t 36))])
 (.seq (.seq (rg [oo 37 (.mv (.t 1)),
  oo 38 (.bin .lss (.t 37) (ci 0))])
 (.cond (.t 38) (.seq (rg [oo 4 (.mv (ci (-1)))])
 .ret) .skip))
 (.seq (rg [oo 39 (.mv (.t 0)),
  oo 40 (.mv (.t 5)),
  oo 41 (.iaddr 4 (.t 39) (.t 40)),
  oo 42 (.faddr 3 3 (.t 41)),
  oo 43 (.load false 1 (.t 42)),
  oo 44 (.mv (.t 1)),
  oo 45 (.call false 235 [(.t 43), (.t 44)]),
  oo 1 (.mv (.t 45))])
 (.seq (rg [oo 46 (.mv (.t 1)),
  oo 47 (.bin .lss (.t 46) (ci 0))])
 (.cond (.t 47) (.seq (rg [oo 4 (.mv (ci (-1)))])
 .ret) .skip))))))))))
 (rg [oo 10 (.mv (.t 5)),
  oo 11 (.bin .add (.t 10) (ci 1)),
  oo 5 (.mv (.t 11))])))
def f55_r0 : AC :=
 (.seq (rg [oo 48 (.mv (.t 1)),
  oo 4 (.mv (.t 48))])
 .ret)
def f55_ac : AC :=
 (.seq (rg [oo 4 (.mv (ci 0))])
 (.seq (.seq (rg [oo 5 (.mv (ci 0))])
 (.block 0 (.loop ⟨[0, 1, 5], [], []⟩ f55_b0)))
 f55_r0))
noncomputable def f55_l0 (E : Env) (x0 : U) (x1 : U) (x5 : U) : Option U := loopK (roundOf E ⟨[0, 1, 5], [], []⟩ f55_b0 (blockK 0 (seqK (fun s => exec E f55_r0 s (finish [(4, none)])) (finish [(4, none)])))) ([.val x0, .val x1, .val x5], [])
theorem f55_l0_eq (E : Env) (x0 : U) (x1 : U) (x5 : U) : f55_l0 E x0 x1 x5 =
 (U.lenOf false x0).bind fun n1 => (U.bin .lss x5 (.int .i64 (n1 : Int))).bind fun t2 => U.asBool t2
 (U.asInt x5 fun n3 => U.elemAt 4 x0 n3 fun e4 => U.fieldAt 0 0 e4 fun f5 => U.asVar false 1 f5 fun e6 => (U.bin .neq e6 x1).bind fun t7 => U.asBool t7
 (some (.int .i64 (-1)))
 ((U.bin .add x1 (.int .i64 1)).bind fun t8 => U.asInt x5 fun n9 => U.elemAt 4 x0 n9 fun e10 => U.fieldAt 1 1 e10 fun f11 => U.asVar false 1 f11 fun e12 => (U.bin .neq e12 t8).bind fun t13 => U.asBool t13
 (some (.int .i64 (-1)))
 ((U.bin .add t8 (.int .i64 1)).bind fun t14 => U.asInt x5 fun n15 => U.elemAt 4 x0 n15 fun e16 => U.fieldAt 2 2 e16 fun f17 => U.asVar false 1 f17 fun e18 => (E 92 [e18, t14]).bind fun t19 => (U.bin .lss t19 (.int .i64 0)).bind fun t20 => U.asBool t20
 (some (.int .i64 (-1)))
 (U.asInt x5 fun n21 => U.elemAt 4 x0 n21 fun e22 => U.fieldAt 3 3 e22 fun f23 => U.asVar false 1 f23 fun e24 => (E 235 [e24, t19]).bind fun t25 => (U.bin .lss t25 (.int .i64 0)).bind fun t26 => U.asBool t26
 (some (.int .i64 (-1)))
 ((U.bin .add x5 (.int .i64 1)).bind fun t27 => f55_l0 E x0 t25 t27)))))
 (some x1) := (loop_eq E _ _ _ _).trans (by kernel_rfl)
structure G_f55 (E : Env) : Prop where
  is : Is E 285 2 f55_ac [(4, none)]
  c_f56 : G_f56 E
  c_f57 : G_f57 E
theorem f55_E {E : Env} (h : G_f55 E) (a0 a1 : U) : E 285 [a0, a1] =
 f55_l0 E a0 a1 (.int .i64 0) := (h.is _ rfl).trans ((runQ_V rfl).trans (by kernel_rfl))
def f71_b0 : AC :=
 (.seq (.seq (rg [oo 8 (.mv (.t 4)),
  oo 9 (.mv (.t 0)),
  oo 10 (.len false (.t 9)),
  oo 11 (.bin .lss (.t 8) (.t 10))])
 (.cond (.t 11) .skip (.exit 0)))
 (.seq (.block 1 (rg [oo 14 (.mv (.t 3)),
  oo 15 (.mv (.t 4)),
  oo 16 (.mv (.t 0)),
  oo 17 (.mv (.t 4)),
  oo 18 (.iaddr 2 (.t 16) (.t 17)),
  oo 19 (.load true 2 (.t 18)),
  oo 20 (.call false 29 [(.t 19)]),
  oo 21 (.iaddr 2 (.t 14) (.t 15)),
  ⟨none, .store 2 (.t 21) (.t 20), none⟩]))
 (rg [oo 12 (.mv (.t 4)),
  oo 13 (.bin .add (.t 12) (ci 1)),
  oo 4 (.mv (.t 13))])))
def f71_r0 : AC :=
 (.seq (rg [oo 22 (.mv (.t 3)),
  oo 2 (.mv (.t 22))])
 .ret)
def f71_ac : AC :=
 (.seq (rg [oo 2 (.mv (.c (.nsl 2)))])
 (.seq (rg [oo 5 (.mv (.t 0)),
  oo 6 (.len false (.t 5)),
  oo 7 (.mkslice 7 2 16 (.agg [(.int .i64 0), (.int .i64 0)]) (.t 6) (.t 6)),
  oo 3 (.mv (.t 7))])
 (.seq (.seq (rg [oo 4 (.mv (ci 0))])
 (.block 0 (.loop ⟨[0, 4], [(3, 2, false)], []⟩ f71_b0)))
 f71_r0)))
noncomputable def f71_l0 (E : Env) (x0 : U) (x4 : U) (c3 : List U) : Option U := loopK (roundOf E ⟨[0, 4], [(3, 2, false)], []⟩ f71_b0 (blockK 0 (seqK (fun s => exec E f71_r0 s (finishF [(2, none)])) (finishF [(2, none)])))) ([.val x0, .val x4], [.vir (.asl 2 c3)])
theorem f71_l0_eq (E : Env) (x0 : U) (x4 : U) (c3 : List U) : f71_l0 E x0 x4 c3 =
 (U.lenOf false x0).bind fun n2 => (U.bin .lss x4 (.int .i64 (n2 : Int))).bind fun t3 => U.asBool t3
 (U.asInt x4 fun n4 => U.elemAt 2 x0 n4 fun e5 => U.asVar true 2 e5 fun e6 => (E 29 [e6]).bind fun t7 => U.asInt x4 fun n8 => if 2 = 2 ∧ 0 ≤ n8 ∧ n8 < ((c3).length : Int) then if storable (.val t7) = true ∧ t7.size = 2 then (c3[(n8 : Int).toNat]?).bind fun e9 => if e9.size = 2 then (U.bin .add x4 (.int .i64 1)).bind fun t10 => f71_l0 E x0 t10 (c3.set (n8 : Int).toNat t7) else none else none else none)
 (if U.flat.flats c3 = true then some (.sl 2 c3) else none) := (loop_eq E _ _ _ _).trans (by kernel_rfl)
structure G_f71 (E : Env) : Prop where
  is : Is E 100028 1 f71_ac [(2, none)]
  c_f69 : G_f69 E
theorem f71_E {E : Env} (h : G_f71 E) (a0 : U) : E 100028 [a0] =
 (U.lenOf false a0).bind fun n1 => if 0 ≤ (n1 : Int) ∧ (n1 : Int) ≤ (n1 : Int) ∧ (n1 : Int) * 16 ≤ 140737488355328 ∧ ((.agg [(.int .i64 0), (.int .i64 0)]) : U).size = 2 then f71_l0 E a0 (.int .i64 0) (List.replicate ((n1 : Int) : Int).toNat (.agg [(.int .i64 0), (.int .i64 0)])) else none := (h.is _ rfl).trans ((runQ_F rfl).trans (by kernel_rfl))
def f74_b0 : AC :=
 (.seq (.seq (rg [oo 8 (.mv (.t 4)),
  oo 9 (.mv (.t 0)),
  oo 10 (.len false (.t 9)),
  oo 11 (.bin .lss (.t 8) (.t 10))])
 (.cond (.t 11) .skip (.exit 0)))
 (.seq (.block 1 (rg [oo 14 (.mv (.t 3)),
  oo 15 (.mv (.t 4)),
  oo 16 (.mv (.t 0)),
  oo 17 (.mv (.t 4)),
  oo 18 (.iaddr 2 (.t 16) (.t 17)),
  oo 19 (.load true 2 (.t 18)),
  oo 20 (.call false 30 [(.t 19)]),
  oo 21 (.iaddr 2 (.t 14) (.t 15)),
  ⟨none, .store 2 (.t 21) (.t 20), none⟩]))
 (rg [oo 12 (.mv (.t 4)),
  oo 13 (.bin .add (.t 12) (ci 1)),
  oo 4 (.mv (.t 13))])))
def f74_r0 : AC :=
 (.seq (rg [oo 22 (.mv (.t 3)),
  oo 2 (.mv (.t 22))])
 .ret)
def f74_ac : AC :=
 (.seq (rg [oo 2 (.mv (.c (.nsl 2)))])
 (.seq (rg [oo 5 (.mv (.t 0)),
  oo 6 (.len false (.t 5)),
  oo 7 (.mkslice 7 2 16 (.agg [(.int .i64 0), (.int .i64 0)]) (.t 6) (.t 6)),
  oo 3 (.mv (.t 7))])
 (.seq (.seq (rg [oo 4 (.mv (ci 0))])
 (.block 0 (.loop ⟨[0, 4], [(3, 2, false)], []⟩ f74_b0)))
 f74_r0)))
noncomputable def f74_l0 (E : Env) (x0 : U) (x4 : U) (c3 : List U) : Option U := loopK (roundOf E ⟨[0, 4], [(3, 2, false)], []⟩ f74_b0 (blockK 0 (seqK (fun s => exec E f74_r0 s (finishF [(2, none)])) (finishF [(2, none)])))) ([.val x0, .val x4], [.vir (.asl 2 c3)])
theorem f74_l0_eq (E : Env) (x0 : U) (x4 : U) (c3 : List U) : f74_l0 E x0 x4 c3 =
 (U.lenOf false x0).bind fun n2 => (U.bin .lss x4 (.int .i64 (n2 : Int))).bind fun t3 => U.asBool t3
 (U.asInt x4 fun n4 => U.elemAt 2 x0 n4 fun e5 => U.asVar true 2 e5 fun e6 => (E 30 [e6]).bind fun t7 => U.asInt x4 fun n8 => if 2 = 2 ∧ 0 ≤ n8 ∧ n8 < ((c3).length : Int) then if storable (.val t7) = true ∧ t7.size = 2 then (c3[(n8 : Int).toNat]?).bind fun e9 => if e9.size = 2 then (U.bin .add x4 (.int .i64 1)).bind fun t10 => f74_l0 E x0 t10 (c3.set (n8 : Int).toNat t7) else none else none else none)
 (if U.flat.flats c3 = true then some (.sl 2 c3) else none) := (loop_eq E _ _ _ _).trans (by kernel_rfl)
structure G_f74 (E : Env) : Prop where
  is : Is E 100027 1 f74_ac [(2, none)]
  c_f72 : G_f72 E
theorem f74_E {E : Env} (h : G_f74 E) (a0 : U) : E 100027 [a0] =
 (U.lenOf false a0).bind fun n1 => if 0 ≤ (n1 : Int) ∧ (n1 : Int) ≤ (n1 : Int) ∧ (n1 : Int) * 16 ≤ 140737488355328 ∧ ((.agg [(.int .i64 0), (.int .i64 0)]) : U).size = 2 then f74_l0 E a0 (.int .i64 0) (List.replicate ((n1 : Int) : Int).toNat (.agg [(.int .i64 0), (.int .i64 0)])) else none := (h.is _ rfl).trans ((runQ_F rfl).trans (by kernel_rfl))
def f68_ac : AC :=
 (.seq (rg [oo 1 (.box false 1 (.t 0)),
  oo 2 (.alloc 2 (.agg [(.int .i64 0), (.int .i64 0), (.nsl 2), (.nsl 2)]))])
 (.seq (rg [oo 3 (.alloc 3 (.agg [(.int .i64 0), (.int .i64 0), (.nsl 2), (.nsl 2)]))])
 (.seq (rg [oo 4 (.faddr 0 0 (.t 1)),
  oo 5 (.load false 1 (.t 4)),
  oo 6 (.faddr 0 0 (.t 3)),
  ⟨none, .store 1 (.t 6) (.t 5), none⟩])
 (.seq (rg [oo 7 (.faddr 1 1 (.t 1)),
  oo 8 (.load false 1 (.t 7)),
  oo 9 (.faddr 1 1 (.t 3)),
  ⟨none, .store 1 (.t 9) (.t 8), none⟩])
 (.seq (rg [oo 10 (.faddr 2 2 (.t 1)),
  oo 11 (.load false 1 (.t 10)),
  oo 12 (.callF 12 false [(.sl 2)] 28 [(.t 11)]),
  oo 13 (.faddr 2 2 (.t 3)),
  ⟨none, .storeM 3000 1 (.t 13) (.t 12), none⟩])
 (.seq (rg [oo 14 (.faddr 3 3 (.t 1)),
  oo 15 (.load false 1 (.t 14)),
  oo 16 (.callF 16 false [(.sl 2)] 27 [(.t 15)]),
  oo 17 (.faddr 3 3 (.t 3)),
  ⟨none, .storeM 3002 1 (.t 17) (.t 16), none⟩])
 (.seq (rg [oo 18 (.loadO (.agg [.int, .int, (.sl 2), (.sl 2)]) (.t 3)),
  ⟨none, .storeM 3001 4 (.t 2) (.t 18), none⟩])
 .ret)))))))
structure G_f68 (E : Env) : Prop where
  is : Is E 100051 1 f68_ac [(2, some (true, 4))]
  c_f71 : G_f71 E
  c_f74 : G_f74 E
theorem f68_E {E : Env} (h : G_f68 E) (a0 : U) : E 100051 [a0] =
 U.noTup a0 fun x1 => U.asAgg x1 fun us2 => if 0 = sizes (us2.take 0) then (us2[0]?).bind fun e3 => U.asVar false 1 e3 fun e4 => if storable (.val e4) = true ∧ e4.size = 1 then U.asAgg x1 fun us5 => if 1 = sizes (us5.take 1) then (us5[1]?).bind fun e6 => U.asVar false 1 e6 fun e7 => if storable (.val e7) = true ∧ e7.size = 1 then if 1 = sizes [e4] then U.asAgg x1 fun us8 => if 2 = sizes (us8.take 2) then (us8[2]?).bind fun e9 => U.asVar false 1 e9 fun e10 => (E 100028 [e10]).bind fun t11 => U.noTup t11 fun x12 => U.asSlK 2 x12 fun us13 => if 2 = sizes [e4, e7] then if 2 = sizes [e4, e7] then if 2 = dsizes [.val e4, .val e7] then U.asAgg x1 fun us14 => if 3 = sizes (us14.take 3) then (us14[3]?).bind fun e15 => U.asVar false 1 e15 fun e16 => (E 100027 [e16]).bind fun t17 => U.noTup t17 fun x18 => U.asSlK 2 x18 fun us19 => if 3 = dsizes [.val e4, .val e7, .own (.sl 2 us13)] then if 3 = dsizes [.val e4, .val e7, .own (.sl 2 us13)] then if 3 = dsizes [.val e4, .val e7, .own (.sl 2 us13)] then U.asInt e4 fun n20 => U.asInt e7 fun n21 => if 2 = dsizes [.val e4, .val e7] then if 2 = dsizes [.val e4, .val e7] then if 3 = dsizes [.val e4, .val e7, .junk 1] then if 3 = dsizes [.val e4, .val e7, .junk 1] then some (.agg [(.int .i64 n20), (.int .i64 n21), (.sl 2 us13), (.sl 2 us19)]) else none else none else none else none else none else none else none else none else none else none else none else none else none else none else none else none else none := (h.is _ rfl).trans ((runQ_F rfl).trans (by kernel_rfl))
def f67_b0 : AC :=
 (.seq (.seq (rg [oo 8 (.mv (.t 4)),
  oo 9 (.mv (.t 0)),
  oo 10 (.len false (.t 9)),
  oo 11 (.bin .lss (.t 8) (.t 10))])
 (.cond (.t 11) .skip (.exit 0)))
 (.seq (.block 1 (rg [oo 14 (.mv (.t 3)),
  oo 15 (.mv (.t 4)),
  oo 16 (.mv (.t 0)),
  oo 17 (.mv (.t 4)),
  oo 18 (.iaddr 4 (.t 16) (.t 17)),
  oo 19 (.load true 4 (.t 18)),
  oo 20 (.callF 20 false [(.agg [.int, .int, (.sl 2), (.sl 2)])] 51 [(.t 19)]),
  oo 21 (.iaddr 4 (.t 14) (.t 15)),
  ⟨none, .storeE 4 (.t 21) (.t 20), none⟩]))
 (rg [oo 12 (.mv (.t 4)),
  oo 13 (.bin .add (.t 12) (ci 1)),
  oo 4 (.mv (.t 13))])))
def f67_r0 : AC :=
 (.seq (rg [oo 22 (.mv (.t 3)),
  oo 2 (.mv (.t 22))])
 .ret)
def f67_ac : AC :=
 (.seq (rg [oo 2 (.mv (.c (.nsl 4)))])
 (.seq (rg [oo 5 (.mv (.t 0)),
  oo 6 (.len false (.t 5)),
  oo 7 (.mkslice 7 4 64 (.agg [(.int .i64 0), (.int .i64 0), (.nsl 2), (.nsl 2)]) (.t 6) (.t 6)),
  oo 3 (.mv (.t 7))])
 (.seq (.seq (rg [oo 4 (.mv (ci 0))])
 (.block 0 (.loop ⟨[0, 4], [(3, 4, true)], []⟩ f67_b0)))
 f67_r0)))
noncomputable def f67_l0 (E : Env) (x0 : U) (x4 : U) (c3 : List U) : Option U := loopK (roundOf E ⟨[0, 4], [(3, 4, true)], []⟩ f67_b0 (blockK 0 (seqK (fun s => exec E f67_r0 s (finishF [(2, none)])) (finishF [(2, none)])))) ([.val x0, .val x4], [.vir (.own (.sl 4 c3))])
theorem f67_l0_eq (E : Env) (x0 : U) (x4 : U) (c3 : List U) : f67_l0 E x0 x4 c3 =
 (U.lenOf false x0).bind fun n2 => (U.bin .lss x4 (.int .i64 (n2 : Int))).bind fun t3 => U.asBool t3
 (U.asInt x4 fun n4 => U.elemAt 4 x0 n4 fun e5 => U.asVar true 4 e5 fun e6 => (E 100051 [e6]).bind fun t7 => U.noTup t7 fun x8 => U.asAgg x8 fun us9 => (match us9 with
 | u10 :: us11 => (U.asInt u10 fun n12 => (match us11 with
 | u13 :: us14 => (U.asInt u13 fun n15 => (match us14 with
 | u16 :: us17 => (U.asSlK 2 u16 fun us18 => (match us17 with
 | u19 :: us20 => (U.asSlK 2 u19 fun us21 => (match us20 with
 | [] => (U.asInt x4 fun n22 => if 4 = 4 ∧ 0 ≤ n22 ∧ n22 < (c3.length : Int) then (c3[(n22 : Int).toNat]?).bind fun e23 => if e23.size = 4 then (U.bin .add x4 (.int .i64 1)).bind fun t24 => f67_l0 E x0 t24 (c3.set (n22 : Int).toNat (.agg [(.int .i64 n12), (.int .i64 n15), (.sl 2 us18), (.sl 2 us21)])) else none else none)
 | _ => none))
 | [] => none))
 | [] => none))
 | [] => none))
 | [] => none))
 (some (.sl 4 c3)) := (loop_eq E _ _ _ _).trans (by kernel_rfl)
structure G_f67 (E : Env) : Prop where
  is : Is E 100045 1 f67_ac [(2, none)]
  c_f68 : G_f68 E
theorem f67_E {E : Env} (h : G_f67 E) (a0 : U) : E 100045 [a0] =
 (U.lenOf false a0).bind fun n1 => if 0 ≤ (n1 : Int) ∧ (n1 : Int) ≤ (n1 : Int) ∧ (n1 : Int) * 64 ≤ 140737488355328 ∧ ((.agg [(.int .i64 0), (.int .i64 0), (.nsl 2), (.nsl 2)]) : U).size = 4 then if U.flat.flats (List.replicate ((n1 : Int) : Int).toNat (.agg [(.int .i64 0), (.int .i64 0), (.nsl 2), (.nsl 2)])) = true then f67_l0 E a0 (.int .i64 0) (List.replicate ((n1 : Int) : Int).toNat (.agg [(.int .i64 0), (.int .i64 0), (.nsl 2), (.nsl 2)])) else none else none := (h.is _ rfl).trans ((runQ_F rfl).trans (by kernel_rfl))
def f59_b0 : AC :=
 (.seq (.seq (rg [oo 6 (.mv (.t 5)),
  oo 7 (.mv (.t 0)),
  oo 8 (.len false (.t 7)),
  oo 9 (.bin .lss (.t 6) (.t 8))])
 (.cond (.t 9) .skip (.exit 0)))
 (.seq (.block 1 (.seq (rg [oo 12 (.mv (.t 0)),
  oo 13 (.mv (.t 5)),
  oo 14 (.mv (.t 1)),
  oo 15 (.iaddr 2 (.t 12) (.t 13)),
  oo 16 (.faddr 0 0 (.t 15)),
  ⟨none, .store 1 (.t 16) (.t 14), none⟩])
 (.seq (rg [oo 17 (.mv (.t 1)),
  oo 18 (.bin .add (.t 17) (ci 1)),
  oo 1 (.mv (.t 18))])
 (.seq (rg [oo 19 (.mv (.t 0)),
  oo 20 (.mv (.t 5)),
  oo 21 (.mv (.t 1)),
  oo 22 (.iaddr 2 (.t 19) (.t 20)),
  oo 23 (.faddr 1 1 (.t 22)),
  ⟨none, .store 1 (.t 23) (.t 21), none⟩])
 (rg [oo 24 (.mv (.t 1)),
  oo 25 (.bin .add (.t 24) (ci 1)),
  oo 1 (.mv (.t 25))])))))
 (rg [oo 10 (.mv (.t 5)),
  oo 11 (.bin .add (.t 10) (ci 1)),
  oo 5 (.mv (.t 11))])))
def f59_r0 : AC :=
 (.seq (rg [oo 26 (.mv (.t 1)),
  oo 4 (.mv (.t 26))])
 .ret)
def f59_ac : AC :=
 (.seq (rg [oo 4 (.mv (ci 0))])
 (.seq (.seq (rg [oo 5 (.mv (ci 0))])
 (.block 0 (.loop ⟨[0, 1, 5], [], [(5000, true)]⟩ f59_b0)))
 f59_r0))
noncomputable def f59_l0 (E : Env) (x1 : U) (x5 : U) (b5000 : List U) : Option U := loopK (roundOf E ⟨[0, 1, 5], [], [(5000, true)]⟩ f59_b0 (blockK 0 (seqK (fun s => exec E f59_r0 s (finishM 2 [(4, none)])) (finishM 2 [(4, none)])))) ([.ref 5000 [] 2 none, .val x1, .val x5], [.vir (.own (.sl 2 b5000))])
theorem f59_l0_eq (E : Env) (x1 : U) (x5 : U) (b5000 : List U) : f59_l0 E x1 x5 b5000 =
 (U.bin .lss x5 (.int .i64 (b5000.length : Int))).bind fun t1 => U.asBool t1
 (U.asInt x5 fun n2 => if 2 = 2 ∧ 0 ≤ n2 ∧ n2 < (b5000.length : Int) then if storable (.val x1) = true ∧ x1.size = 1 then (b5000[(n2 : Int).toNat]?).bind fun e3 => U.asAgg e3 fun us4 => if 0 = sizes (us4.take 0) then (us4[0]?).bind fun e5 => if e5.size = 1 then if (x1 : U).flat = true then (U.bin .add x1 (.int .i64 1)).bind fun t6 => U.asInt x5 fun n7 => if 2 = 2 ∧ 0 ≤ n7 ∧ n7 < (((b5000.set (n2 : Int).toNat (.agg (us4.set 0 x1)))).length : Int) then if storable (.val t6) = true ∧ t6.size = 1 then ((b5000.set (n2 : Int).toNat (.agg (us4.set 0 x1)))[(n7 : Int).toNat]?).bind fun e8 => U.asAgg e8 fun us9 => if 1 = sizes (us9.take 1) then (us9[1]?).bind fun e10 => if e10.size = 1 then if (t6 : U).flat = true then (U.bin .add t6 (.int .i64 1)).bind fun t11 => (U.bin .add x5 (.int .i64 1)).bind fun t12 => f59_l0 E t11 t12 ((b5000.set (n2 : Int).toNat (.agg (us4.set 0 x1))).set (n7 : Int).toNat (.agg (us9.set 1 t6))) else none else none else none else none else none else none else none else none else none else none)
 (if (x1 : U).flat = true then some (.tup [x1, .sl 2 b5000]) else none) := (loop_eq E _ _ _ _).trans (by kernel_rfl)
structure G_f59 (E : Env) : Prop where
  is : Is E 200095 2 f59_ac [(4, none)]
theorem f59_E {E : Env} (h : G_f59 E) (xs0 : List U) (a1 : U) : E 200095 (.agg [.tup [.sl 2 xs0]] :: [a1]) =
 f59_l0 E a1 (.int .i64 0) xs0 := (h.is _ rfl).trans ((runQ_M rfl).trans (by kernel_rfl))
def f60_b0 : AC :=
 (.seq (.seq (rg [oo 6 (.mv (.t 5)),
  oo 7 (.mv (.t 0)),
  oo 8 (.len false (.t 7)),
  oo 9 (.bin .lss (.t 6) (.t 8))])
 (.cond (.t 9) .skip (.exit 0)))
 (.seq (.block 1 (.seq (rg [oo 12 (.mv (.t 0)),
  oo 13 (.mv (.t 5)),
  oo 14 (.mv (.t 1)),
  oo 15 (.iaddr 2 (.t 12) (.t 13)),
  oo 16 (.faddr 0 0 (.t 15)),
  ⟨none, .store 1 (.t 16) (.t 14), none⟩])
 (.seq (rg [oo 17 (.mv (.t 1)),
  oo 18 (.bin .add (.t 17) (ci 1)),
  oo 1 (.mv (.t 18))])
 (.seq (rg [oo 19 (.mv (.t 0)),
  oo 20 (.mv (.t 5)),
  oo 21 (.mv (.t 1)),
  oo 22 (.iaddr 2 (.t 19) (.t 20)),
  oo 23 (.faddr 1 1 (.t 22)),
  ⟨none, .store 1 (.t 23) (.t 21), none⟩])
 (rg [oo 24 (.mv (.t 1)),
  oo 25 (.bin .add (.t 24) (ci 1)),
  oo 1 (.mv (.t 25))])))))
 (rg [oo 10 (.mv (.t 5)),
  oo 11 (.bin .add (.t 10) (ci 1)),
  oo 5 (.mv (.t 11))])))
def f60_r0 : AC :=
 (.seq (rg [oo 26 (.mv (.t 1)),
  oo 4 (.mv (.t 26))])
 .ret)
def f60_ac : AC :=
 (.seq (rg [oo 4 (.mv (ci 0))])
 (.seq (.seq (rg [oo 5 (.mv (ci 0))])
 (.block 0 (.loop ⟨[0, 1, 5], [], [(5000, true)]⟩ f60_b0)))
 f60_r0))
noncomputable def f60_l0 (E : Env) (x1 : U) (x5 : U) (b5000 : List U) : Option U := loopK (roundOf E ⟨[0, 1, 5], [], [(5000, true)]⟩ f60_b0 (blockK 0 (seqK (fun s => exec E f60_r0 s (finishM 2 [(4, none)])) (finishM 2 [(4, none)])))) ([.ref 5000 [] 2 none, .val x1, .val x5], [.vir (.own (.sl 2 b5000))])
theorem f60_l0_eq (E : Env) (x1 : U) (x5 : U) (b5000 : List U) : f60_l0 E x1 x5 b5000 =
 (U.bin .lss x5 (.int .i64 (b5000.length : Int))).bind fun t1 => U.asBool t1
 (U.asInt x5 fun n2 => if 2 = 2 ∧ 0 ≤ n2 ∧ n2 < (b5000.length : Int) then if storable (.val x1) = true ∧ x1.size = 1 then (b5000[(n2 : Int).toNat]?).bind fun e3 => U.asAgg e3 fun us4 => if 0 = sizes (us4.take 0) then (us4[0]?).bind fun e5 => if e5.size = 1 then if (x1 : U).flat = true then (U.bin .add x1 (.int .i64 1)).bind fun t6 => U.asInt x5 fun n7 => if 2 = 2 ∧ 0 ≤ n7 ∧ n7 < (((b5000.set (n2 : Int).toNat (.agg (us4.set 0 x1)))).length : Int) then if storable (.val t6) = true ∧ t6.size = 1 then ((b5000.set (n2 : Int).toNat (.agg (us4.set 0 x1)))[(n7 : Int).toNat]?).bind fun e8 => U.asAgg e8 fun us9 => if 1 = sizes (us9.take 1) then (us9[1]?).bind fun e10 => if e10.size = 1 then if (t6 : U).flat = true then (U.bin .add t6 (.int .i64 1)).bind fun t11 => (U.bin .add x5 (.int .i64 1)).bind fun t12 => f60_l0 E t11 t12 ((b5000.set (n2 : Int).toNat (.agg (us4.set 0 x1))).set (n7 : Int).toNat (.agg (us9.set 1 t6))) else none else none else none else none else none else none else none else none else none else none)
 (if (x1 : U).flat = true then some (.tup [x1, .sl 2 b5000]) else none) := (loop_eq E _ _ _ _).trans (by kernel_rfl)
structure G_f60 (E : Env) : Prop where
  is : Is E 200232 2 f60_ac [(4, none)]
theorem f60_E {E : Env} (h : G_f60 E) (xs0 : List U) (a1 : U) : E 200232 (.agg [.tup [.sl 2 xs0]] :: [a1]) =
 f60_l0 E a1 (.int .i64 0) xs0 := (h.is _ rfl).trans ((runQ_M rfl).trans (by kernel_rfl))
def f58_b0 : AC :=
 (.seq (.seq (rg [oo 6 (.mv (.t 5)),
  oo 7 (.mv (.t 0)),
  oo 8 (.len false (.t 7)),
  oo 9 (.bin .lss (.t 6) (.t 8))])
 (.cond (.t 9) .skip (.exit 0)))
 (.seq (.block 1 (.seq (rg [oo 12 (.mv (.t 0)),
  oo 13 (.mv (.t 5)),
  oo 14 (.mv (.t 1)),
  oo 15 (.iaddr 4 (.t 12) (.t 13)),
  oo 16 (.faddr 0 0 (.t 15)),
  ⟨none, .store 1 (.t 16) (.t 14), none⟩])
 (.seq (rg [oo 17 (.mv (.t 1)),
  oo 18 (.bin .add (.t 17) (ci 1)),
  oo 1 (.mv (.t 18))])
 (.seq (rg [oo 19 (.mv (.t 0)),
  oo 20 (.mv (.t 5)),
  oo 21 (.mv (.t 1)),
  oo 22 (.iaddr 4 (.t 19) (.t 20)),
  oo 23 (.faddr 1 1 (.t 22)),
  ⟨none, .store 1 (.t 23) (.t 21), none⟩])
 (.seq (rg [oo 24 (.mv (.t 1)),
  oo 25 (.bin .add (.t 24) (ci 1)),
  oo 1 (.mv (.t 25))])
 (.seq (rg [oo 26 (.mv (.t 0)),
  oo 27 (.mv (.t 5)),
  oo 28 (.iaddr 4 (.t 26) (.t 27)),
  oo 29 (.faddr 2 2 (.t 28)),
  oo 30 (.loadO (.sl 2) (.t 29)),
  oo 31 (.mv (.t 1)),
  oo 32 (.callM 2 95 (.t 30) [(.t 31)]),
  oo 1 (.mv (.t 32))])
 (rg [oo 33 (.mv (.t 0)),
  oo 34 (.mv (.t 5)),
  oo 35 (.iaddr 4 (.t 33) (.t 34)),
  oo 36 (.faddr 3 3 (.t 35)),
  oo 37 (.loadO (.sl 2) (.t 36)),
  oo 38 (.mv (.t 1)),
  oo 39 (.callM 2 232 (.t 37) [(.t 38)]),
  oo 1 (.mv (.t 39))])))))))
 (rg [oo 10 (.mv (.t 5)),
  oo 11 (.bin .add (.t 10) (ci 1)),
  oo 5 (.mv (.t 11))])))
def f58_r0 : AC :=
 (.seq (rg [oo 40 (.mv (.t 1)),
  oo 4 (.mv (.t 40))])
 .ret)
def f58_ac : AC :=
 (.seq (rg [oo 4 (.mv (ci 0))])
 (.seq (.seq (rg [oo 5 (.mv (ci 0))])
 (.block 0 (.loop ⟨[0, 1, 5], [], [(5000, true)]⟩ f58_b0)))
 f58_r0))
noncomputable def f58_l0 (E : Env) (x1 : U) (x5 : U) (b5000 : List U) : Option U := loopK (roundOf E ⟨[0, 1, 5], [], [(5000, true)]⟩ f58_b0 (blockK 0 (seqK (fun s => exec E f58_r0 s (finishM 4 [(4, none)])) (finishM 4 [(4, none)])))) ([.ref 5000 [] 4 none, .val x1, .val x5], [.vir (.own (.sl 4 b5000))])
theorem f58_l0_eq (E : Env) (x1 : U) (x5 : U) (b5000 : List U) : f58_l0 E x1 x5 b5000 =
 (U.bin .lss x5 (.int .i64 (b5000.length : Int))).bind fun t1 => U.asBool t1
 (U.asInt x5 fun n2 => if 4 = 4 ∧ 0 ≤ n2 ∧ n2 < (b5000.length : Int) then if storable (.val x1) = true ∧ x1.size = 1 then (b5000[(n2 : Int).toNat]?).bind fun e3 => U.asAgg e3 fun us4 => if 0 = sizes (us4.take 0) then (us4[0]?).bind fun e5 => if e5.size = 1 then if (x1 : U).flat = true then (U.bin .add x1 (.int .i64 1)).bind fun t6 => U.asInt x5 fun n7 => if 4 = 4 ∧ 0 ≤ n7 ∧ n7 < (((b5000.set (n2 : Int).toNat (.agg (us4.set 0 x1)))).length : Int) then if storable (.val t6) = true ∧ t6.size = 1 then ((b5000.set (n2 : Int).toNat (.agg (us4.set 0 x1)))[(n7 : Int).toNat]?).bind fun e8 => U.asAgg e8 fun us9 => if 1 = sizes (us9.take 1) then (us9[1]?).bind fun e10 => if e10.size = 1 then if (t6 : U).flat = true then (U.bin .add t6 (.int .i64 1)).bind fun t11 => U.asInt x5 fun n12 => if 4 = 4 ∧ 0 ≤ n12 ∧ n12 < ((((b5000.set (n2 : Int).toNat (.agg (us4.set 0 x1))).set (n7 : Int).toNat (.agg (us9.set 1 t6)))).length : Int) then (((b5000.set (n2 : Int).toNat (.agg (us4.set 0 x1))).set (n7 : Int).toNat (.agg (us9.set 1 t6)))[(n12 : Int).toNat]?).bind fun e13 => U.asAgg e13 fun us14 => if 2 = sizes (us14.take 2) then (us14[2]?).bind fun e15 => U.asSlK 2 e15 fun _ => (((b5000.set (n2 : Int).toNat (.agg (us4.set 0 x1))).set (n7 : Int).toNat (.agg (us9.set 1 t6)))[(n12 : Int).toNat]?).bind fun e16 => U.asAgg e16 fun us17 => if 2 = sizes (us17.take 2) then (us17[2]?).bind fun e18 => U.asSlK 2 e18 fun _ => U.asSlK 2 e18 fun us19 => (E 200095 (.agg [.tup [.sl 2 us19]] :: [t11])).bind fun t20 => U.asMut 2 t20 fun y21 ys22 => U.asFlat y21 fun y21 => (((b5000.set (n2 : Int).toNat (.agg (us4.set 0 x1))).set (n7 : Int).toNat (.agg (us9.set 1 t6)))[(n12 : Int).toNat]?).bind fun e23 => U.asAgg e23 fun us24 => if 2 = sizes (us24.take 2) then (us24[2]?).bind fun e25 => if e25.size = 1 then U.asInt x5 fun n26 => if 4 = 4 ∧ 0 ≤ n26 ∧ n26 < (((((b5000.set (n2 : Int).toNat (.agg (us4.set 0 x1))).set (n7 : Int).toNat (.agg (us9.set 1 t6))).set (n12 : Int).toNat (.agg (us24.set 2 (.sl 2 ys22))))).length : Int) then ((((b5000.set (n2 : Int).toNat (.agg (us4.set 0 x1))).set (n7 : Int).toNat (.agg (us9.set 1 t6))).set (n12 : Int).toNat (.agg (us24.set 2 (.sl 2 ys22))))[(n26 : Int).toNat]?).bind fun e27 => U.asAgg e27 fun us28 => if 3 = sizes (us28.take 3) then (us28[3]?).bind fun e29 => U.asSlK 2 e29 fun _ => ((((b5000.set (n2 : Int).toNat (.agg (us4.set 0 x1))).set (n7 : Int).toNat (.agg (us9.set 1 t6))).set (n12 : Int).toNat (.agg (us24.set 2 (.sl 2 ys22))))[(n26 : Int).toNat]?).bind fun e30 => U.asAgg e30 fun us31 => if 3 = sizes (us31.take 3) then (us31[3]?).bind fun e32 => U.asSlK 2 e32 fun _ => U.asSlK 2 e32 fun us33 => (E 200232 (.agg [.tup [.sl 2 us33]] :: [y21])).bind fun t34 => U.asMut 2 t34 fun y35 ys36 => U.asFlat y35 fun y35 => ((((b5000.set (n2 : Int).toNat (.agg (us4.set 0 x1))).set (n7 : Int).toNat (.agg (us9.set 1 t6))).set (n12 : Int).toNat (.agg (us24.set 2 (.sl 2 ys22))))[(n26 : Int).toNat]?).bind fun e37 => U.asAgg e37 fun us38 => if 3 = sizes (us38.take 3) then (us38[3]?).bind fun e39 => if e39.size = 1 then (U.bin .add x5 (.int .i64 1)).bind fun t40 => f58_l0 E y35 t40 ((((b5000.set (n2 : Int).toNat (.agg (us4.set 0 x1))).set (n7 : Int).toNat (.agg (us9.set 1 t6))).set (n12 : Int).toNat (.agg (us24.set 2 (.sl 2 ys22)))).set (n26 : Int).toNat (.agg (us38.set 3 (.sl 2 ys36)))) else none else none else none else none else none else none else none else none else none else none else none else none else none else none else none else none else none else none else none else none)
 (if (x1 : U).flat = true then some (.tup [x1, .sl 4 b5000]) else none) := (loop_eq E _ _ _ _).trans (by kernel_rfl)
structure G_f58 (E : Env) : Prop where
  is : Is E 200287 2 f58_ac [(4, none)]
  c_f59 : G_f59 E
  c_f60 : G_f60 E
theorem f58_E {E : Env} (h : G_f58 E) (xs0 : List U) (a1 : U) : E 200287 (.agg [.tup [.sl 4 xs0]] :: [a1]) =
 f58_l0 E a1 (.int .i64 0) xs0 := (h.is _ rfl).trans ((runQ_M rfl).trans (by kernel_rfl))
def f48_r0 : AC :=
 (rg [oo 12 (.mv (.t 69))])
def f48_ac : AC :=
 (.seq (rg [oo 3 (.box false 3 (.t 1)),
  oo 4 (.mv (.c (.bool false)))])
 (.seq (rg [oo 5 (.mv (ci 1048576))])
 (.seq (rg [oo 17 (.mv (.t 0)),
  oo 18 (.mv (.t 5)),
  oo 19 (.call false 49 [(.t 17), (.t 18)]),
  oo 5 (.mv (.t 19))])
 (.seq (.seq (rg [oo 20 (.mv (.t 5)),
  oo 21 (.bin .lss (.t 20) (ci 0))])
 (.cond (.t 21) (.seq (rg [oo 4 (.mv (.c (.bool true)))])
 .ret) .skip))
 (.seq (rg [oo 22 (.load true 4 (.t 3)),
  oo 23 (.mv (.t 5)),
  oo 24 (.call false 50 [(.t 22), (.t 23)]),
  oo 5 (.mv (.t 24))])
 (.seq (.seq (rg [oo 25 (.mv (.t 5)),
  oo 26 (.bin .lss (.t 25) (ci 0))])
 (.cond (.t 26) (.seq (rg [oo 4 (.mv (.c (.bool true)))])
 .ret) .skip))
 (.seq (.region 10 [oo 28 (.mv (.t 0)),
  oo 29 (.call false 45 [(.t 28)]),
  oo 30 (.load true 4 (.t 3)),
  oo 31 (.call false 51 [(.t 30)]),
  oo 32 (.call false 289 [(.t 29), (.t 31)]),
  oo 27 (.mv (.t 32)),
  oo 33 (.extract 0 (.t 27)),
  oo 34 (.extract 1 (.t 27)),
  oo 6 (.mv (.t 33)),
  oo 7 (.mv (.t 34))])
 (.seq (rg [oo 35 (.mv (.t 0)),
  oo 36 (.callF 36 false [(.sl 4)] 45 [(.t 35)]),
  oo 8 (.mv (.t 36))])
 (.seq (rg [oo 37 (.load true 4 (.t 3)),
  oo 38 (.callF 38 false [(.agg [.int, .int, (.sl 2), (.sl 2)])] 51 [(.t 37)]),
  oo 9 (.alloc 9 (.agg [(.int .i64 0), (.int .i64 0), (.nsl 2), (.nsl 2)])),
  ⟨none, .storeM 3000 4 (.t 9) (.t 38), none⟩])
 (.seq (rg [oo 40 (.mv (.t 8)),
  oo 41 (.loadO (.agg [.int, .int, (.sl 2), (.sl 2)]) (.t 9)),
  oo 42 (.callF 42 true [(.sl 4), .bool] 286 [(.t 40), (.t 41)]),
  oo 39 (.mv (.t 42)),
  oo 43 (.extract 0 (.t 39)),
  oo 44 (.extract 1 (.t 39)),
  oo 10 (.mv (.t 43)),
  oo 11 (.mv (.t 44))])
 (.seq (.seq (rg [oo 45 (.mv (.t 10)),
  oo 46 (.mv (.t 6)),
  oo 47 (.call false 46 [(.t 45), (.t 46)]),
  oo 48 (.un .not (.t 47)),
  oo 49 (.mv (.t 48)),
  ⟨some 50, .mv (.t 11), some (49, false)⟩,
  ⟨some 51, .mv (.t 7), some (49, false)⟩,
  ⟨some 52, .eqv true 0 (.t 50) (.t 51), some (49, false)⟩,
  oo 53 (.pick (.t 49) (.c (.bool true)) (.t 52))])
 (.cond (.t 53) (.seq (rg [oo 4 (.mv (.c (.bool false)))])
 .ret) .skip))
 (.seq (.seq (rg [oo 54 (.mv (.t 8)),
  oo 55 (.mv (.t 0)),
  oo 56 (.call false 45 [(.t 55)]),
  oo 57 (.call false 46 [(.t 54), (.t 56)]),
  oo 58 (.un .not (.t 57))])
 (.cond (.t 58) (.seq (rg [oo 4 (.mv (.c (.bool false)))])
 .ret) .skip))
 (.seq (.seq (.region 5 [oo 59 (.loadO (.agg [.int, .int, (.sl 2), (.sl 2)]) (.t 9)),
  oo 60 (.load true 4 (.t 3)),
  oo 61 (.call false 51 [(.t 60)]),
  oo 62 (.call false 56 [(.t 59), (.t 61)]),
  oo 63 (.un .not (.t 62))])
 (.cond (.t 63) (.seq (rg [oo 4 (.mv (.c (.bool false)))])
 .ret) .skip))
 (.seq (rg [oo 12 (.mv (ci 1))])
 (.seq (rg [oo 64 (.mv (.t 8)),
  oo 65 (.mv (.t 12)),
  oo 66 (.callM 4 287 (.t 64) [(.t 65)]),
  oo 12 (.mv (.t 66))])
 (.seq (.regI 0 [oo 67 (.loadO (.agg [.int, .int, (.sl 2), (.sl 2)]) (.t 9)),
  oo 68 (.mv (.t 12))] ⟨some 69, 119, 14, 288, [(.t 67), (.t 68)], [4]⟩ (.seq (rg [oo 121 (.boxS 121 (.t 119)),
  oo 123 (.mv (ci 0))])
 (.seq (rg [oo 124 (.faddr 2 2 (.t 121)),
  oo 125 (.load false 1 (.t 124)),
  oo 126 (.mv (.t 120)),
  oo 127 (.callM 2 95 (.t 125) [(.t 126)]),
  oo 120 (.mv (.t 127))])
 (.seq (rg [oo 128 (.faddr 3 3 (.t 121)),
  oo 129 (.load false 1 (.t 128)),
  oo 130 (.mv (.t 120)),
  oo 131 (.callM 2 232 (.t 129) [(.t 130)]),
  oo 120 (.mv (.t 131))])
 (.seq (rg [oo 132 (.mv (.t 120)),
  oo 123 (.mv (.t 132))])
 .ret)))) f48_r0)
 (.seq (.seq (rg [oo 70 (.mv (.t 12)),
  oo 71 (.bin .lss (.t 70) (ci 0)),
  oo 72 (.mv (.t 71)),
  ⟨some 73, .mv (.t 10), some (72, false)⟩,
  ⟨some 74, .mv (.t 6), some (72, false)⟩,
  ⟨some 75, .call false 46 [(.t 73), (.t 74)], some (72, false)⟩,
  ⟨some 76, .un .not (.t 75), some (72, false)⟩,
  oo 77 (.pick (.t 72) (.c (.bool true)) (.t 76)),
  oo 78 (.mv (.t 77)),
  ⟨some 79, .mv (.t 11), some (78, false)⟩,
  ⟨some 80, .mv (.t 7), some (78, false)⟩,
  ⟨some 81, .eqv true 0 (.t 79) (.t 80), some (78, false)⟩,
  oo 82 (.pick (.t 78) (.c (.bool true)) (.t 81))])
 (.cond (.t 82) (.seq (rg [oo 4 (.mv (.c (.bool false)))])
 .ret) .skip))
 (.seq (rg [oo 13 (.mv (ci 1))])
 (.seq (rg [oo 83 (.mv (.t 10)),
  oo 84 (.mv (.t 13)),
  oo 85 (.callM 4 287 (.t 83) [(.t 84)]),
  oo 13 (.mv (.t 85))])
 (.seq (rg [oo 14 (.mv (ci 1))])
 (.seq (rg [oo 86 (.mv (.t 10)),
  oo 87 (.mv (.t 14)),
  oo 88 (.call false 285 [(.t 86), (.t 87)]),
  oo 14 (.mv (.t 88))])
 (.seq (.seq (rg [oo 89 (.mv (.t 14)),
  oo 90 (.bin .lss (.t 89) (ci 0))])
 (.cond (.t 90) (.seq (rg [oo 4 (.mv (.c (.bool false)))])
 .ret) .skip))
 (.seq (.seq (rg [oo 91 (.mv (.t 14)),
  oo 92 (.mv (.t 13)),
  oo 93 (.bin .neq (.t 91) (.t 92))])
 (.cond (.t 93) (.seq (rg [oo 4 (.mv (.c (.bool false)))])
 .ret) .skip))
 (.seq (.region 10 [oo 95 (.mv (.t 0)),
  oo 96 (.call false 45 [(.t 95)]),
  oo 97 (.load true 4 (.t 3)),
  oo 98 (.call false 51 [(.t 97)]),
  oo 99 (.call false 286 [(.t 96), (.t 98)]),
  oo 94 (.mv (.t 99)),
  oo 100 (.extract 0 (.t 94)),
  oo 101 (.extract 1 (.t 94)),
  oo 15 (.mv (.t 100)),
  oo 16 (.mv (.t 101))])
 (.seq (.seq (rg [oo 102 (.mv (.t 15)),
  oo 103 (.mv (.t 6)),
  oo 104 (.call false 46 [(.t 102), (.t 103)]),
  oo 105 (.un .not (.t 104)),
  oo 106 (.mv (.t 105)),
  ⟨some 107, .mv (.t 16), some (106, false)⟩,
  ⟨some 108, .mv (.t 7), some (106, false)⟩,
  ⟨some 109, .eqv true 0 (.t 107) (.t 108), some (106, false)⟩,
  oo 110 (.pick (.t 106) (.c (.bool true)) (.t 109))])
 (.cond (.t 110) (.seq (rg [oo 4 (.mv (.c (.bool false)))])
 .ret) .skip))
 (.seq (rg [oo 14 (.mv (ci 1))])
 (.seq (rg [oo 111 (.mv (.t 10)),
  oo 112 (.mv (.t 14)),
  oo 113 (.call false 285 [(.t 111), (.t 112)]),
  oo 14 (.mv (.t 113))])
 (.seq (.seq (rg [oo 114 (.mv (.t 14)),
  oo 115 (.bin .lss (.t 114) (ci 0))])
 (.cond (.t 115) (.seq (rg [oo 4 (.mv (.c (.bool false)))])
 .ret) .skip))
 (.seq (.seq (rg [oo 116 (.mv (.t 14)),
  oo 117 (.mv (.t 13)),
  oo 118 (.bin .neq (.t 116) (.t 117))])
 (.cond (.t 118) (.seq (rg [oo 4 (.mv (.c (.bool false)))])
 .ret) .skip))
 (.seq (rg [oo 4 (.mv (.c (.bool true)))])
 .ret))))))))))))))))))))))))))))))
structure G_f48 (E : Env) : Prop where
  is : Is E 284 2 f48_ac [(4, none)]
  c_f62 : G_f62 E
  c_f66 : G_f66 E
  c_f50 : G_f50 E
  c_f61 : G_f61 E
  c_f90 : G_f90 E
  c_f65 : G_f65 E
  c_f49 : G_f49 E
  c_f55 : G_f55 E
  c_f67 : G_f67 E
  c_f68 : G_f68 E
  c_f58 : G_f58 E
  c_f59 : G_f59 E
  c_f60 : G_f60 E
theorem f48_E {E : Env} (h : G_f48 E) (a0 a1 : U) : E 284 [a0, a1] =
 U.noTup a1 fun x1 => (E 49 [a0, (.int .i64 1048576)]).bind fun t2 => (U.bin .lss t2 (.int .i64 0)).bind fun t3 => U.asBool t3
 (some (.bool true))
 (U.asVar true 4 x1 fun e4 => (E 50 [e4, t2]).bind fun t5 => (U.bin .lss t5 (.int .i64 0)).bind fun t6 => U.asBool t6
 (some (.bool true))
 ((E 45 [a0]).bind fun t7 => U.asVar true 4 x1 fun e8 => (E 51 [e8]).bind fun t9 => (E 289 [t7, t9]).bind fun t10 => U.part 0 t10 fun p11 => U.part 1 t10 fun p12 => (E 100045 [a0]).bind fun t13 => U.noTup t13 fun x14 => U.asSlK 4 x14 fun us15 => U.asVar true 4 x1 fun e16 => (E 100051 [e16]).bind fun t17 => U.noTup t17 fun x18 => U.asAgg x18 fun us19 => (match us19 with
 | u20 :: us21 => (U.asInt u20 fun n22 => (match us21 with
 | u23 :: us24 => (U.asInt u23 fun n25 => (match us24 with
 | u26 :: us27 => (U.asSlK 2 u26 fun us28 => (match us27 with
 | u29 :: us30 => (U.asSlK 2 u29 fun us31 => (match us30 with
 | [] => ((E 100286 [(.sl 4 us15), (.agg [(.int .i64 n22), (.int .i64 n25), (.sl 2 us28), (.sl 2 us31)])]).bind fun t32 => U.asTup t32 fun us33 => (match us33 with
 | u34 :: us35 => (U.asSlK 4 u34 fun us36 => (match us35 with
 | u37 :: us38 => (U.asB u37 fun b39 => (match us38 with
 | [] => ((E 46 [(.sl 4 us36), p11]).bind fun t40 => U.asFlat t40 fun t41 => (U.un .not t41).bind fun t42 => U.asBool t42
 (some (.bool false))
 ((U.eqv 0 (.bool b39) p12).bind fun q43 => U.asBool (.bool (!q43))
 (some (.bool false))
 ((E 45 [a0]).bind fun t44 => (E 46 [(.sl 4 us15), t44]).bind fun t45 => U.asFlat t45 fun t46 => (U.un .not t46).bind fun t47 => U.asBool t47
 (some (.bool false))
 (U.asVar true 4 x1 fun e48 => (E 51 [e48]).bind fun t49 => (E 56 [(.agg [(.int .i64 n22), (.int .i64 n25), (.sl 2 us28), (.sl 2 us31)]), t49]).bind fun t50 => U.asFlat t50 fun t51 => (U.un .not t51).bind fun t52 => U.asBool t52
 (some (.bool false))
 ((E 200287 (.agg [.tup [.sl 4 us15]] :: [(.int .i64 1)])).bind fun t53 => U.asMut 4 t53 fun y54 ys55 => U.asFlat y54 fun y54 => (E 200095 (.agg [.tup [.sl 2 us28]] :: [y54])).bind fun t56 => U.asMut 2 t56 fun y57 ys58 => U.asFlat y57 fun y57 => (E 200232 (.agg [.tup [.sl 2 us31]] :: [y57])).bind fun t59 => U.asMut 2 t59 fun y60 ys61 => U.asFlat y60 fun y60 => if partable (.val y60) = true then (U.bin .lss y60 (.int .i64 0)).bind fun t62 => U.asBool t62
 (some (.bool false))
 ((E 46 [(.sl 4 us36), p11]).bind fun t63 => U.asFlat t63 fun t64 => (U.un .not t64).bind fun t65 => U.asBool t65
 (some (.bool false))
 ((U.eqv 0 (.bool b39) p12).bind fun q66 => U.asBool (.bool (!q66))
 (some (.bool false))
 ((E 200287 (.agg [.tup [.sl 4 us36]] :: [(.int .i64 1)])).bind fun t67 => U.asMut 4 t67 fun y68 ys69 => U.asFlat y68 fun y68 => (E 285 [(.sl 4 ys69), (.int .i64 1)]).bind fun t70 => U.asFlat t70 fun t71 => (U.bin .lss t71 (.int .i64 0)).bind fun t72 => U.asBool t72
 (some (.bool false))
 ((U.bin .neq t71 y68).bind fun t73 => U.asBool t73
 (some (.bool false))
 ((E 45 [a0]).bind fun t74 => U.asVar true 4 x1 fun e75 => (E 51 [e75]).bind fun t76 => (E 286 [t74, t76]).bind fun t77 => U.part 0 t77 fun p78 => U.part 1 t77 fun p79 => (E 46 [p78, p11]).bind fun t80 => (U.un .not t80).bind fun t81 => U.asBool t81
 (some (.bool false))
 ((U.eqv 0 p79 p12).bind fun q82 => U.asBool (.bool (!q82))
 (some (.bool false))
 ((E 285 [(.sl 4 ys69), (.int .i64 1)]).bind fun t83 => U.asFlat t83 fun t84 => (U.bin .lss t84 (.int .i64 0)).bind fun t85 => U.asBool t85
 (some (.bool false))
 ((U.bin .neq t84 y68).bind fun t86 => U.asBool t86
 (some (.bool false))
 (some (.bool true)))))))))) else none)))))
 | _ => none))
 | [] => none))
 | [] => none))
 | _ => none))
 | [] => none))
 | [] => none))
 | [] => none))
 | [] => none))) := (h.is _ rfl).trans ((runQ_V rfl).trans (by kernel_rfl))
end Go.Proofs.Ytlgblpngiamhaaa.Am
