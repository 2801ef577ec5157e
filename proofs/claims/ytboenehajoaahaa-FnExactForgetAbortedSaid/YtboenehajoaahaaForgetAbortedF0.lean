import Derived.KernelRfl
import Derived.Test.YtboenehajoaahaaAmW
import Derived.Test.YtboenehajoaahaaAmCl
import Derived.Test.YtboenehajoaahaaAmX
import Derived.Test.YtboenehajoaahaaAmRw
import Derived.Test.YtboenehajoaahaaAmBd
namespace Go.Proofs.Ytboenehajoaahaa.Am
open Go
set_option linter.unusedVariables false
set_option maxRecDepth 100000
def f45_ac : AC :=
 (.seq (rg [oo 4 (.mv (ci 0))])
 (.seq (rg [oo 5 (.mv (.t 1)),
  oo 6 (.mv (.t 0)),
  oo 7 (.len false (.t 6)),
  oo 8 (.bin .sub (.t 5) (.t 7)),
  oo 1 (.mv (.t 8))])
 (.seq (.seq (rg [oo 9 (.mv (.t 1)),
  oo 10 (.bin .lss (.t 9) (ci 0))])
 (.cond (.t 10) (.seq (rg [oo 4 (.mv (ci (-1)))])
 .ret) .skip))
 (.seq (rg [oo 11 (.mv (.t 1)),
  oo 4 (.mv (.t 11))])
 .ret))))
structure G_f45 (E : Env) : Prop where
  is : Is E 101 2 f45_ac [(4, none)]
theorem f45_E {E : Env} (h : G_f45 E) (a0 a1 : U) : E 101 [a0, a1] =
 (U.lenOf false a0).bind fun n1 => (U.bin .sub a1 (.int .i64 (n1 : Int))).bind fun t2 => (U.bin .lss t2 (.int .i64 0)).bind fun t3 => U.asBool t3
 (some (.int .i64 (-1)))
 (some t2) := (h.is _ rfl).trans ((Qe rfl).trans (by kernel_rfl))
def f46_b0 : AC :=
 (.seq (.seq (rg [oo 12 (.mv (.t 5)),
  oo 13 (.mv (.t 0)),
  oo 14 (.len false (.t 13)),
  oo 15 (.bin .lss (.t 12) (.t 14))])
 (.cond (.t 15) .skip (.exit 0)))
 (.seq (.block 1 (.seq (rg [oo 18 (.mv (.t 0)),
  oo 19 (.mv (.t 5)),
  oo 20 (.iaddr 1 (.t 18) (.t 19)),
  oo 21 (.load false 1 (.t 20)),
  oo 22 (.mv (.t 1)),
  oo 23 (.call false 101 [(.t 21), (.t 22)]),
  oo 1 (.mv (.t 23))])
 (.seq (rg [oo 24 (.mv (.t 1)),
  oo 25 (.bin .lss (.t 24) (ci 0))])
 (.cond (.t 25) (.seq (rg [oo 4 (.mv (ci (-1)))])
 .ret) .skip))))
 (rg [oo 16 (.mv (.t 5)),
  oo 17 (.bin .add (.t 16) (ci 1)),
  oo 5 (.mv (.t 17))])))
def f46_r0 : AC :=
 (.seq (rg [oo 26 (.mv (.t 1)),
  oo 4 (.mv (.t 26))])
 .ret)
def f46_ac : AC :=
 (.seq (rg [oo 4 (.mv (ci 0))])
 (.seq (rg [oo 6 (.mv (.t 1)),
  oo 7 (.mv (.t 0)),
  oo 8 (.len false (.t 7)),
  oo 9 (.bin .sub (.t 6) (.t 8)),
  oo 1 (.mv (.t 9))])
 (.seq (.seq (rg [oo 10 (.mv (.t 1)),
  oo 11 (.bin .lss (.t 10) (ci 0))])
 (.cond (.t 11) (.seq (rg [oo 4 (.mv (ci (-1)))])
 .ret) .skip))
 (.seq (.seq (rg [oo 5 (.mv (ci 0))])
 (.block 0 (.loop ⟨[0, 1, 5], [], []⟩ f46_b0)))
 f46_r0))))
noncomputable def f46_l0 (E : Env) (x0 : U) (x1 : U) (x5 : U) : Option U := loopK (roundOf E ⟨[0, 1, 5], [], []⟩ f46_b0 (blockK 0 (seqK (fun s => exec E f46_r0 s (finish [(4, none)])) (finish [(4, none)])))) ([.val x0, .val x1, .val x5], [])
theorem Qkp (E : Env) (x0 : U) (x1 : U) (x5 : U) : f46_l0 E x0 x1 x5 =
 (U.lenOf false x0).bind fun n4 => (U.bin .lss x5 (.int .i64 (n4 : Int))).bind fun t5 => U.asBool t5
 (U.asInt x5 fun n6 => U.elemAt 1 x0 n6 fun e7 => U.asVar false 1 e7 fun e8 => (E 101 [e8, x1]).bind fun t9 => (U.bin .lss t9 (.int .i64 0)).bind fun t10 => U.asBool t10
 (some (.int .i64 (-1)))
 ((U.bin .add x5 (.int .i64 1)).bind fun t11 => f46_l0 E x0 t9 t11))
 (some x1) := (Qf E _ _ _ _).trans (by kernel_rfl)
structure G_f46 (E : Env) : Prop where
  is : Is E 100 2 f46_ac [(4, none)]
  c_f45 : G_f45 E
theorem f46_E {E : Env} (h : G_f46 E) (a0 a1 : U) : E 100 [a0, a1] =
 (U.lenOf false a0).bind fun n1 => (U.bin .sub a1 (.int .i64 (n1 : Int))).bind fun t2 => (U.bin .lss t2 (.int .i64 0)).bind fun t3 => U.asBool t3
 (some (.int .i64 (-1)))
 (f46_l0 E a0 t2 (.int .i64 0)) := (h.is _ rfl).trans ((Qe rfl).trans (by kernel_rfl))
def f42_ac : AC :=
 (.seq (rg [oo 2 (.box false 2 (.t 0)),
  oo 4 (.mv (ci 0))])
 (.seq (rg [oo 5 (.faddr 0 0 (.t 2)),
  oo 6 (.load false 1 (.t 5)),
  oo 7 (.mv (.t 1)),
  oo 8 (.call false 100 [(.t 6), (.t 7)]),
  oo 1 (.mv (.t 8))])
 (.seq (.seq (rg [oo 9 (.mv (.t 1)),
  oo 10 (.bin .lss (.t 9) (ci 0))])
 (.cond (.t 10) (.seq (rg [oo 4 (.mv (ci (-1)))])
 .ret) .skip))
 (.seq (rg [oo 11 (.mv (.t 1)),
  oo 4 (.mv (.t 11))])
 .ret))))
structure G_f42 (E : Env) : Prop where
  is : Is E 99 2 f42_ac [(4, none)]
  c_f46 : G_f46 E
theorem f42_E {E : Env} (h : G_f42 E) (a0 a1 : U) : E 99 [a0, a1] =
 U.noTup a0 fun x1 => U.asAgg x1 fun us2 => if 0 = sizes (us2.take 0) then (us2[0]?).bind fun e3 => U.asVar false 1 e3 fun e4 => (E 100 [e4, a1]).bind fun t5 => (U.bin .lss t5 (.int .i64 0)).bind fun t6 => U.asBool t6
 (some (.int .i64 (-1)))
 (some t5) else none := (h.is _ rfl).trans ((Qe rfl).trans (by kernel_rfl))
def f41_ac : AC :=
 (.seq (rg [oo 4 (.mv (ci 0))])
 (.seq (rg [oo 5 (.mv (.t 1)),
  oo 6 (.mv (.t 0)),
  oo 7 (.len false (.t 6)),
  oo 8 (.bin .sub (.t 5) (.t 7)),
  oo 1 (.mv (.t 8))])
 (.seq (.seq (rg [oo 9 (.mv (.t 1)),
  oo 10 (.bin .lss (.t 9) (ci 0))])
 (.cond (.t 10) (.seq (rg [oo 4 (.mv (ci (-1)))])
 .ret) .skip))
 (.seq (rg [oo 11 (.mv (.t 1)),
  oo 4 (.mv (.t 11))])
 .ret))))
structure G_f41 (E : Env) : Prop where
  is : Is E 24 2 f41_ac [(4, none)]
theorem f41_E {E : Env} (h : G_f41 E) (a0 a1 : U) : E 24 [a0, a1] =
 (U.lenOf false a0).bind fun n1 => (U.bin .sub a1 (.int .i64 (n1 : Int))).bind fun t2 => (U.bin .lss t2 (.int .i64 0)).bind fun t3 => U.asBool t3
 (some (.int .i64 (-1)))
 (some t2) := (h.is _ rfl).trans ((Qe rfl).trans (by kernel_rfl))
def f48_ac : AC :=
 (.seq (rg [oo 4 (.mv (ci 0))])
 (.seq (rg [oo 5 (.mv (.t 1)),
  oo 6 (.mv (.t 0)),
  oo 7 (.len false (.t 6)),
  oo 8 (.bin .sub (.t 5) (.t 7)),
  oo 1 (.mv (.t 8))])
 (.seq (.seq (rg [oo 9 (.mv (.t 1)),
  oo 10 (.bin .lss (.t 9) (ci 0))])
 (.cond (.t 10) (.seq (rg [oo 4 (.mv (ci (-1)))])
 .ret) .skip))
 (.seq (rg [oo 11 (.mv (.t 1)),
  oo 4 (.mv (.t 11))])
 .ret))))
structure G_f48 (E : Env) : Prop where
  is : Is E 23 2 f48_ac [(4, none)]
theorem f48_E {E : Env} (h : G_f48 E) (a0 a1 : U) : E 23 [a0, a1] =
 (U.lenOf false a0).bind fun n1 => (U.bin .sub a1 (.int .i64 (n1 : Int))).bind fun t2 => (U.bin .lss t2 (.int .i64 0)).bind fun t3 => U.asBool t3
 (some (.int .i64 (-1)))
 (some t2) := (h.is _ rfl).trans ((Qe rfl).trans (by kernel_rfl))
def f43_ac : AC :=
 (.seq (rg [oo 2 (.box false 2 (.t 0)),
  oo 4 (.mv (ci 0))])
 (.seq (rg [oo 5 (.faddr 7 7 (.t 2)),
  oo 6 (.load false 1 (.t 5)),
  oo 7 (.mv (.t 1)),
  oo 8 (.call false 24 [(.t 6), (.t 7)]),
  oo 1 (.mv (.t 8))])
 (.seq (.seq (rg [oo 9 (.mv (.t 1)),
  oo 10 (.bin .lss (.t 9) (ci 0))])
 (.cond (.t 10) (.seq (rg [oo 4 (.mv (ci (-1)))])
 .ret) .skip))
 (.seq (rg [oo 11 (.faddr 8 8 (.t 2)),
  oo 12 (.load false 1 (.t 11)),
  oo 13 (.mv (.t 1)),
  oo 14 (.call false 23 [(.t 12), (.t 13)]),
  oo 1 (.mv (.t 14))])
 (.seq (.seq (rg [oo 15 (.mv (.t 1)),
  oo 16 (.bin .lss (.t 15) (ci 0))])
 (.cond (.t 16) (.seq (rg [oo 4 (.mv (ci (-1)))])
 .ret) .skip))
 (.seq (rg [oo 17 (.mv (.t 1)),
  oo 4 (.mv (.t 17))])
 .ret))))))
structure G_f43 (E : Env) : Prop where
  is : Is E 132 2 f43_ac [(4, none)]
  c_f41 : G_f41 E
  c_f48 : G_f48 E
theorem f43_E {E : Env} (h : G_f43 E) (a0 a1 : U) : E 132 [a0, a1] =
 U.noTup a0 fun x1 => U.asAgg x1 fun us2 => if 7 = sizes (us2.take 7) then (us2[7]?).bind fun e3 => U.asVar false 1 e3 fun e4 => (E 24 [e4, a1]).bind fun t5 => (U.bin .lss t5 (.int .i64 0)).bind fun t6 => U.asBool t6
 (some (.int .i64 (-1)))
 (U.asAgg x1 fun us7 => if 8 = sizes (us7.take 8) then (us7[8]?).bind fun e8 => U.asVar false 1 e8 fun e9 => (E 23 [e9, t5]).bind fun t10 => (U.bin .lss t10 (.int .i64 0)).bind fun t11 => U.asBool t11
 (some (.int .i64 (-1)))
 (some t10) else none) else none := (h.is _ rfl).trans ((Qe rfl).trans (by kernel_rfl))
def f44_b0 : AC :=
 (.seq (.seq (rg [oo 12 (.mv (.t 5)),
  oo 13 (.mv (.t 0)),
  oo 14 (.len false (.t 13)),
  oo 15 (.bin .lss (.t 12) (.t 14))])
 (.cond (.t 15) .skip (.exit 0)))
 (.seq (.block 1 (.seq (rg [oo 18 (.mv (.t 0)),
  oo 19 (.mv (.t 5)),
  oo 20 (.iaddr 9 (.t 18) (.t 19)),
  oo 21 (.load true 9 (.t 20)),
  oo 22 (.mv (.t 1)),
  oo 23 (.call false 132 [(.t 21), (.t 22)]),
  oo 1 (.mv (.t 23))])
 (.seq (rg [oo 24 (.mv (.t 1)),
  oo 25 (.bin .lss (.t 24) (ci 0))])
 (.cond (.t 25) (.seq (rg [oo 4 (.mv (ci (-1)))])
 .ret) .skip))))
 (rg [oo 16 (.mv (.t 5)),
  oo 17 (.bin .add (.t 16) (ci 1)),
  oo 5 (.mv (.t 17))])))
def f44_r0 : AC :=
 (.seq (rg [oo 26 (.mv (.t 1)),
  oo 4 (.mv (.t 26))])
 .ret)
def f44_ac : AC :=
 (.seq (rg [oo 4 (.mv (ci 0))])
 (.seq (rg [oo 6 (.mv (.t 1)),
  oo 7 (.mv (.t 0)),
  oo 8 (.len false (.t 7)),
  oo 9 (.bin .sub (.t 6) (.t 8)),
  oo 1 (.mv (.t 9))])
 (.seq (.seq (rg [oo 10 (.mv (.t 1)),
  oo 11 (.bin .lss (.t 10) (ci 0))])
 (.cond (.t 11) (.seq (rg [oo 4 (.mv (ci (-1)))])
 .ret) .skip))
 (.seq (.seq (rg [oo 5 (.mv (ci 0))])
 (.block 0 (.loop ⟨[0, 1, 5], [], []⟩ f44_b0)))
 f44_r0))))
noncomputable def f44_l0 (E : Env) (x0 : U) (x1 : U) (x5 : U) : Option U := loopK (roundOf E ⟨[0, 1, 5], [], []⟩ f44_b0 (blockK 0 (seqK (fun s => exec E f44_r0 s (finish [(4, none)])) (finish [(4, none)])))) ([.val x0, .val x1, .val x5], [])
theorem Qkm (E : Env) (x0 : U) (x1 : U) (x5 : U) : f44_l0 E x0 x1 x5 =
 (U.lenOf false x0).bind fun n4 => (U.bin .lss x5 (.int .i64 (n4 : Int))).bind fun t5 => U.asBool t5
 (U.asInt x5 fun n6 => U.elemAt 9 x0 n6 fun e7 => U.asVar true 9 e7 fun e8 => (E 132 [e8, x1]).bind fun t9 => (U.bin .lss t9 (.int .i64 0)).bind fun t10 => U.asBool t10
 (some (.int .i64 (-1)))
 ((U.bin .add x5 (.int .i64 1)).bind fun t11 => f44_l0 E x0 t9 t11))
 (some x1) := (Qf E _ _ _ _).trans (by kernel_rfl)
structure G_f44 (E : Env) : Prop where
  is : Is E 131 2 f44_ac [(4, none)]
  c_f43 : G_f43 E
theorem f44_E {E : Env} (h : G_f44 E) (a0 a1 : U) : E 131 [a0, a1] =
 (U.lenOf false a0).bind fun n1 => (U.bin .sub a1 (.int .i64 (n1 : Int))).bind fun t2 => (U.bin .lss t2 (.int .i64 0)).bind fun t3 => U.asBool t3
 (some (.int .i64 (-1)))
 (f44_l0 E a0 t2 (.int .i64 0)) := (h.is _ rfl).trans ((Qe rfl).trans (by kernel_rfl))
def f40_ac : AC :=
 (.seq (rg [oo 4 (.mv (ci 0))])
 (.seq (rg [oo 5 (.mv (.t 1)),
  oo 6 (.mv (.t 0)),
  oo 7 (.len false (.t 6)),
  oo 8 (.bin .sub (.t 5) (.t 7)),
  oo 1 (.mv (.t 8))])
 (.seq (.seq (rg [oo 9 (.mv (.t 1)),
  oo 10 (.bin .lss (.t 9) (ci 0))])
 (.cond (.t 10) (.seq (rg [oo 4 (.mv (ci (-1)))])
 .ret) .skip))
 (.seq (rg [oo 11 (.mv (.t 1)),
  oo 4 (.mv (.t 11))])
 .ret))))
structure G_f40 (E : Env) : Prop where
  is : Is E 130 2 f40_ac [(4, none)]
theorem f40_E {E : Env} (h : G_f40 E) (a0 a1 : U) : E 130 [a0, a1] =
 (U.lenOf false a0).bind fun n1 => (U.bin .sub a1 (.int .i64 (n1 : Int))).bind fun t2 => (U.bin .lss t2 (.int .i64 0)).bind fun t3 => U.asBool t3
 (some (.int .i64 (-1)))
 (some t2) := (h.is _ rfl).trans ((Qe rfl).trans (by kernel_rfl))
def f47_ac : AC :=
 (.seq (rg [oo 4 (.mv (ci 0))])
 (.seq (rg [oo 5 (.mv (.t 1)),
  oo 6 (.mv (.t 0)),
  oo 7 (.len false (.t 6)),
  oo 8 (.bin .sub (.t 5) (.t 7)),
  oo 1 (.mv (.t 8))])
 (.seq (.seq (rg [oo 9 (.mv (.t 1)),
  oo 10 (.bin .lss (.t 9) (ci 0))])
 (.cond (.t 10) (.seq (rg [oo 4 (.mv (ci (-1)))])
 .ret) .skip))
 (.seq (rg [oo 11 (.mv (.t 1)),
  oo 4 (.mv (.t 11))])
 .ret))))
structure G_f47 (E : Env) : Prop where
  is : Is E 129 2 f47_ac [(4, none)]
theorem f47_E {E : Env} (h : G_f47 E) (a0 a1 : U) : E 129 [a0, a1] =
 (U.lenOf false a0).bind fun n1 => (U.bin .sub a1 (.int .i64 (n1 : Int))).bind fun t2 => (U.bin .lss t2 (.int .i64 0)).bind fun t3 => U.asBool t3
 (some (.int .i64 (-1)))
 (some t2) := (h.is _ rfl).trans ((Qe rfl).trans (by kernel_rfl))
def f39_ac : AC :=
 (.seq (rg [oo 2 (.box false 2 (.t 0)),
  oo 4 (.mv (ci 0))])
 (.seq (rg [oo 5 (.faddr 1 1 (.t 2)),
  oo 6 (.load true 1 (.t 5)),
  oo 7 (.mv (.t 1)),
  oo 8 (.call false 99 [(.t 6), (.t 7)]),
  oo 1 (.mv (.t 8))])
 (.seq (.seq (rg [oo 9 (.mv (.t 1)),
  oo 10 (.bin .lss (.t 9) (ci 0))])
 (.cond (.t 10) (.seq (rg [oo 4 (.mv (ci (-1)))])
 .ret) .skip))
 (.seq (rg [oo 11 (.faddr 2 2 (.t 2)),
  oo 12 (.load false 1 (.t 11)),
  oo 13 (.mv (.t 1)),
  oo 14 (.call false 131 [(.t 12), (.t 13)]),
  oo 1 (.mv (.t 14))])
 (.seq (.seq (rg [oo 15 (.mv (.t 1)),
  oo 16 (.bin .lss (.t 15) (ci 0))])
 (.cond (.t 16) (.seq (rg [oo 4 (.mv (ci (-1)))])
 .ret) .skip))
 (.seq (rg [oo 17 (.faddr 3 3 (.t 2)),
  oo 18 (.load false 1 (.t 17)),
  oo 19 (.mv (.t 1)),
  oo 20 (.call false 130 [(.t 18), (.t 19)]),
  oo 1 (.mv (.t 20))])
 (.seq (.seq (rg [oo 21 (.mv (.t 1)),
  oo 22 (.bin .lss (.t 21) (ci 0))])
 (.cond (.t 22) (.seq (rg [oo 4 (.mv (ci (-1)))])
 .ret) .skip))
 (.seq (rg [oo 23 (.faddr 4 4 (.t 2)),
  oo 24 (.load false 1 (.t 23)),
  oo 25 (.mv (.t 1)),
  oo 26 (.call false 129 [(.t 24), (.t 25)]),
  oo 1 (.mv (.t 26))])
 (.seq (.seq (rg [oo 27 (.mv (.t 1)),
  oo 28 (.bin .lss (.t 27) (ci 0))])
 (.cond (.t 28) (.seq (rg [oo 4 (.mv (ci (-1)))])
 .ret) .skip))
 (.seq (rg [oo 29 (.mv (.t 1)),
  oo 4 (.mv (.t 29))])
 .ret))))))))))
structure G_f39 (E : Env) : Prop where
  is : Is E 128 2 f39_ac [(4, none)]
  c_f42 : G_f42 E
  c_f44 : G_f44 E
  c_f40 : G_f40 E
  c_f47 : G_f47 E
theorem f39_E {E : Env} (h : G_f39 E) (a0 a1 : U) : E 128 [a0, a1] =
 U.noTup a0 fun x1 => U.asAgg x1 fun us2 => if 1 = sizes (us2.take 1) then (us2[1]?).bind fun e3 => U.asVar true 1 e3 fun e4 => (E 99 [e4, a1]).bind fun t5 => (U.bin .lss t5 (.int .i64 0)).bind fun t6 => U.asBool t6
 (some (.int .i64 (-1)))
 (U.asAgg x1 fun us7 => if 2 = sizes (us7.take 2) then (us7[2]?).bind fun e8 => U.asVar false 1 e8 fun e9 => (E 131 [e9, t5]).bind fun t10 => (U.bin .lss t10 (.int .i64 0)).bind fun t11 => U.asBool t11
 (some (.int .i64 (-1)))
 (U.asAgg x1 fun us12 => if 3 = sizes (us12.take 3) then (us12[3]?).bind fun e13 => U.asVar false 1 e13 fun e14 => (E 130 [e14, t10]).bind fun t15 => (U.bin .lss t15 (.int .i64 0)).bind fun t16 => U.asBool t16
 (some (.int .i64 (-1)))
 (U.asAgg x1 fun us17 => if 4 = sizes (us17.take 4) then (us17[4]?).bind fun e18 => U.asVar false 1 e18 fun e19 => (E 129 [e19, t15]).bind fun t20 => (U.bin .lss t20 (.int .i64 0)).bind fun t21 => U.asBool t21
 (some (.int .i64 (-1)))
 (some t20) else none) else none) else none) else none := (h.is _ rfl).trans ((Qe rfl).trans (by kernel_rfl))
def f63_ac : AC :=
 (.seq (rg [oo 1 (.box false 1 (.t 0)),
  oo 2 (.alloc 2 (.agg [(.int .i64 0), (.int .i64 0), (.int .i64 0), (.int .i64 0), (.int .i64 0)]))])
 (.seq (rg [oo 3 (.alloc 3 (.agg [(.int .i64 0), (.int .i64 0), (.int .i64 0), (.int .i64 0), (.int .i64 0)]))])
 (.seq (rg [oo 4 (.faddr 0 0 (.t 1)),
  oo 5 (.load false 1 (.t 4)),
  oo 6 (.faddr 0 0 (.t 3)),
  ⟨none, .store 1 (.t 6) (.t 5), none⟩])
 (.seq (rg [oo 7 (.faddr 1 1 (.t 1)),
  oo 8 (.load false 1 (.t 7)),
  oo 9 (.faddr 1 1 (.t 3)),
  ⟨none, .store 1 (.t 9) (.t 8), none⟩])
 (.seq (rg [oo 10 (.faddr 2 2 (.t 1)),
  oo 11 (.load false 1 (.t 10)),
  oo 12 (.faddr 2 2 (.t 3)),
  ⟨none, .store 1 (.t 12) (.t 11), none⟩])
 (.seq (rg [oo 13 (.faddr 3 3 (.t 1)),
  oo 14 (.load false 1 (.t 13)),
  oo 15 (.faddr 3 3 (.t 3)),
  ⟨none, .store 1 (.t 15) (.t 14), none⟩])
 (.seq (rg [oo 16 (.faddr 4 4 (.t 1)),
  oo 17 (.load false 1 (.t 16)),
  oo 18 (.faddr 4 4 (.t 3)),
  ⟨none, .store 1 (.t 18) (.t 17), none⟩])
 (.seq (rg [oo 19 (.load true 5 (.t 3)),
  ⟨none, .store 5 (.t 2) (.t 19), none⟩])
 .ret))))))))
structure G_f63 (E : Env) : Prop where
  is : Is E 109 1 f63_ac [(2, some (true, 5))]
theorem f63_E {E : Env} (h : G_f63 E) (a0 : U) : E 109 [a0] =
 U.noTup a0 fun x1 => U.asAgg x1 fun us2 => if 0 = sizes (us2.take 0) then (us2[0]?).bind fun e3 => U.asVar false 1 e3 fun e4 => if storable (.val e4) = true ∧ e4.size = 1 then U.asAgg x1 fun us5 => if 1 = sizes (us5.take 1) then (us5[1]?).bind fun e6 => U.asVar false 1 e6 fun e7 => if storable (.val e7) = true ∧ e7.size = 1 then if 1 = sizes [e4] then U.asAgg x1 fun us8 => if 2 = sizes (us8.take 2) then (us8[2]?).bind fun e9 => U.asVar false 1 e9 fun e10 => if storable (.val e10) = true ∧ e10.size = 1 then if 2 = sizes [e4, e7] then U.asAgg x1 fun us11 => if 3 = sizes (us11.take 3) then (us11[3]?).bind fun e12 => U.asVar false 1 e12 fun e13 => if storable (.val e13) = true ∧ e13.size = 1 then if 3 = sizes [e4, e7, e10] then U.asAgg x1 fun us14 => if 4 = sizes (us14.take 4) then (us14[4]?).bind fun e15 => U.asVar false 1 e15 fun e16 => if storable (.val e16) = true ∧ e16.size = 1 then if 4 = sizes [e4, e7, e10, e13] then U.asVar true 5 (.agg [e4, e7, e10, e13, e16]) fun e17 => if storable (.val e17) = true ∧ e17.size = 5 then U.asVar true 5 e17 fun e18 => some e18 else none else none else none else none else none else none else none else none else none else none else none else none else none else none else none := (h.is _ rfl).trans ((Qe rfl).trans (by kernel_rfl))
def f64_b0 : AC :=
 (.seq (.seq (rg [oo 8 (.mv (.t 4)),
  oo 9 (.mv (.t 0)),
  oo 10 (.len false (.t 9)),
  oo 11 (.bin .lss (.t 8) (.t 10))])
 (.cond (.t 11) .skip (.exit 0)))
 (.seq (.block 1 (rg [oo 14 (.mv (.t 3)),
  oo 15 (.mv (.t 4)),
  oo 16 (.mv (.t 0)),
  oo 17 (.mv (.t 4)),
  oo 18 (.iaddr 5 (.t 16) (.t 17)),
  oo 19 (.load true 5 (.t 18)),
  oo 20 (.call false 109 [(.t 19)]),
  oo 21 (.iaddr 5 (.t 14) (.t 15)),
  ⟨none, .store 5 (.t 21) (.t 20), none⟩]))
 (rg [oo 12 (.mv (.t 4)),
  oo 13 (.bin .add (.t 12) (ci 1)),
  oo 4 (.mv (.t 13))])))
def f64_r0 : AC :=
 (.seq (rg [oo 22 (.mv (.t 3)),
  oo 2 (.mv (.t 22))])
 .ret)
def f64_ac : AC :=
 (.seq (rg [oo 2 (.mv (.c (.nsl 5)))])
 (.seq (rg [oo 5 (.mv (.t 0)),
  oo 6 (.len false (.t 5)),
  oo 7 (.mkslice 7 5 40 (.agg [(.int .i64 0), (.int .i64 0), (.int .i64 0), (.int .i64 0), (.int .i64 0)]) (.t 6) (.t 6)),
  oo 3 (.mv (.t 7))])
 (.seq (.seq (rg [oo 4 (.mv (ci 0))])
 (.block 0 (.loop ⟨[0, 4], [(3, 5, false)], []⟩ f64_b0)))
 f64_r0)))
noncomputable def f64_l0 (E : Env) (x0 : U) (x4 : U) (c3 : List U) : Option U := loopK (roundOf E ⟨[0, 4], [(3, 5, false)], []⟩ f64_b0 (blockK 0 (seqK (fun s => exec E f64_r0 s (finish [(2, none)])) (finish [(2, none)])))) ([.val x0, .val x4], [.vir (.asl 5 c3)])
theorem Qk8 (E : Env) (x0 : U) (x4 : U) (c3 : List U) : f64_l0 E x0 x4 c3 =
 (U.lenOf false x0).bind fun n2 => (U.bin .lss x4 (.int .i64 (n2 : Int))).bind fun t3 => U.asBool t3
 (U.asInt x4 fun n4 => U.elemAt 5 x0 n4 fun e5 => U.asVar true 5 e5 fun e6 => (E 109 [e6]).bind fun t7 => U.asInt x4 fun n8 => if 5 = 5 ∧ 0 ≤ n8 ∧ n8 < ((c3).length : Int) then if storable (.val t7) = true ∧ t7.size = 5 then (c3[(n8 : Int).toNat]?).bind fun e9 => if e9.size = 5 then (U.bin .add x4 (.int .i64 1)).bind fun t10 => f64_l0 E x0 t10 (c3.set (n8 : Int).toNat t7) else none else none else none)
 (some (.sl 5 c3)) := (Qf E _ _ _ _).trans (by kernel_rfl)
structure G_f64 (E : Env) : Prop where
  is : Is E 108 1 f64_ac [(2, none)]
  c_f63 : G_f63 E
theorem f64_E {E : Env} (h : G_f64 E) (a0 : U) : E 108 [a0] =
 (U.lenOf false a0).bind fun n1 => if 0 ≤ (n1 : Int) ∧ (n1 : Int) ≤ (n1 : Int) ∧ (n1 : Int) * 40 ≤ 140737488355328 ∧ ((.agg [(.int .i64 0), (.int .i64 0), (.int .i64 0), (.int .i64 0), (.int .i64 0)]) : U).size = 5 then f64_l0 E a0 (.int .i64 0) (List.replicate ((n1 : Int) : Int).toNat (.agg [(.int .i64 0), (.int .i64 0), (.int .i64 0), (.int .i64 0), (.int .i64 0)])) else none := (h.is _ rfl).trans ((Qe rfl).trans (by kernel_rfl))
def f65_b0 : AC :=
 (.seq (.seq (rg [oo 8 (.mv (.t 4)),
  oo 9 (.mv (.t 0)),
  oo 10 (.len false (.t 9)),
  oo 11 (.bin .lss (.t 8) (.t 10))])
 (.cond (.t 11) .skip (.exit 0)))
 (.seq (.block 1 (rg [oo 14 (.mv (.t 3)),
  oo 15 (.mv (.t 4)),
  oo 16 (.mv (.t 0)),
  oo 17 (.mv (.t 4)),
  oo 18 (.iaddr 1 (.t 16) (.t 17)),
  oo 19 (.load false 1 (.t 18)),
  oo 20 (.call false 108 [(.t 19)]),
  oo 21 (.iaddr 1 (.t 14) (.t 15)),
  ⟨none, .store 1 (.t 21) (.t 20), none⟩]))
 (rg [oo 12 (.mv (.t 4)),
  oo 13 (.bin .add (.t 12) (ci 1)),
  oo 4 (.mv (.t 13))])))
def f65_r0 : AC :=
 (.seq (rg [oo 22 (.mv (.t 3)),
  oo 2 (.mv (.t 22))])
 .ret)
def f65_ac : AC :=
 (.seq (rg [oo 2 (.mv (.c (.nsl 1)))])
 (.seq (rg [oo 5 (.mv (.t 0)),
  oo 6 (.len false (.t 5)),
  oo 7 (.mkslice 7 1 24 (.nsl 5) (.t 6) (.t 6)),
  oo 3 (.mv (.t 7))])
 (.seq (.seq (rg [oo 4 (.mv (ci 0))])
 (.block 0 (.loop ⟨[0, 4], [(3, 1, false)], []⟩ f65_b0)))
 f65_r0)))
noncomputable def f65_l0 (E : Env) (x0 : U) (x4 : U) (c3 : List U) : Option U := loopK (roundOf E ⟨[0, 4], [(3, 1, false)], []⟩ f65_b0 (blockK 0 (seqK (fun s => exec E f65_r0 s (finish [(2, none)])) (finish [(2, none)])))) ([.val x0, .val x4], [.vir (.asl 1 c3)])
theorem Qla (E : Env) (x0 : U) (x4 : U) (c3 : List U) : f65_l0 E x0 x4 c3 =
 (U.lenOf false x0).bind fun n2 => (U.bin .lss x4 (.int .i64 (n2 : Int))).bind fun t3 => U.asBool t3
 (U.asInt x4 fun n4 => U.elemAt 1 x0 n4 fun e5 => U.asVar false 1 e5 fun e6 => (E 108 [e6]).bind fun t7 => U.asInt x4 fun n8 => if 1 = 1 ∧ 0 ≤ n8 ∧ n8 < ((c3).length : Int) then if storable (.val t7) = true ∧ t7.size = 1 then (c3[(n8 : Int).toNat]?).bind fun e9 => if e9.size = 1 then (U.bin .add x4 (.int .i64 1)).bind fun t10 => f65_l0 E x0 t10 (c3.set (n8 : Int).toNat t7) else none else none else none)
 (some (.sl 1 c3)) := (Qf E _ _ _ _).trans (by kernel_rfl)
structure G_f65 (E : Env) : Prop where
  is : Is E 107 1 f65_ac [(2, none)]
  c_f64 : G_f64 E
theorem f65_E {E : Env} (h : G_f65 E) (a0 : U) : E 107 [a0] =
 (U.lenOf false a0).bind fun n1 => if 0 ≤ (n1 : Int) ∧ (n1 : Int) ≤ (n1 : Int) ∧ (n1 : Int) * 24 ≤ 140737488355328 ∧ ((.nsl 5) : U).size = 1 then f65_l0 E a0 (.int .i64 0) (List.replicate ((n1 : Int) : Int).toNat (.nsl 5)) else none := (h.is _ rfl).trans ((Qe rfl).trans (by kernel_rfl))
def f57_ac : AC :=
 (.seq (rg [oo 1 (.box false 1 (.t 0)),
  oo 2 (.alloc 2 (.agg [(.nsl 1)]))])
 (.seq (rg [oo 3 (.alloc 3 (.agg [(.nsl 1)]))])
 (.seq (rg [oo 4 (.faddr 0 0 (.t 1)),
  oo 5 (.load false 1 (.t 4)),
  oo 6 (.call false 107 [(.t 5)]),
  oo 7 (.faddr 0 0 (.t 3)),
  ⟨none, .store 1 (.t 7) (.t 6), none⟩])
 (.seq (rg [oo 8 (.load true 1 (.t 3)),
  ⟨none, .store 1 (.t 2) (.t 8), none⟩])
 .ret))))
structure G_f57 (E : Env) : Prop where
  is : Is E 93 1 f57_ac [(2, some (true, 1))]
  c_f65 : G_f65 E
theorem f57_E {E : Env} (h : G_f57 E) (a0 : U) : E 93 [a0] =
 U.noTup a0 fun x1 => U.asAgg x1 fun us2 => if 0 = sizes (us2.take 0) then (us2[0]?).bind fun e3 => U.asVar false 1 e3 fun e4 => (E 107 [e4]).bind fun t5 => if storable (.val t5) = true ∧ t5.size = 1 then U.asVar true 1 (.agg [t5]) fun e6 => if storable (.val e6) = true ∧ e6.size = 1 then U.asVar true 1 e6 fun e7 => some e7 else none else none else none := (h.is _ rfl).trans ((Qe rfl).trans (by kernel_rfl))
def f54_ac : AC :=
 (.seq (rg [oo 1 (.box false 1 (.t 0)),
  oo 2 (.alloc 2 (.agg [(.int .i64 0), (.int .i64 0)]))])
 (.seq (rg [oo 3 (.alloc 3 (.agg [(.int .i64 0), (.int .i64 0)]))])
 (.seq (rg [oo 4 (.faddr 0 0 (.t 1)),
  oo 5 (.load false 1 (.t 4)),
  oo 6 (.faddr 0 0 (.t 3)),
  ⟨none, .store 1 (.t 6) (.t 5), none⟩])
 (.seq (rg [oo 7 (.faddr 1 1 (.t 1)),
  oo 8 (.load false 1 (.t 7)),
  oo 9 (.faddr 1 1 (.t 3)),
  ⟨none, .store 1 (.t 9) (.t 8), none⟩])
 (.seq (rg [oo 10 (.load true 2 (.t 3)),
  ⟨none, .store 2 (.t 2) (.t 10), none⟩])
 .ret)))))
structure G_f54 (E : Env) : Prop where
  is : Is E 29 1 f54_ac [(2, some (true, 2))]
theorem f54_E {E : Env} (h : G_f54 E) (a0 : U) : E 29 [a0] =
 U.noTup a0 fun x1 => U.asAgg x1 fun us2 => if 0 = sizes (us2.take 0) then (us2[0]?).bind fun e3 => U.asVar false 1 e3 fun e4 => if storable (.val e4) = true ∧ e4.size = 1 then U.asAgg x1 fun us5 => if 1 = sizes (us5.take 1) then (us5[1]?).bind fun e6 => U.asVar false 1 e6 fun e7 => if storable (.val e7) = true ∧ e7.size = 1 then if 1 = sizes [e4] then U.asVar true 2 (.agg [e4, e7]) fun e8 => if storable (.val e8) = true ∧ e8.size = 2 then U.asVar true 2 e8 fun e9 => some e9 else none else none else none else none else none else none := (h.is _ rfl).trans ((Qe rfl).trans (by kernel_rfl))
def f55_b0 : AC :=
 (.seq (.seq (rg [oo 8 (.mv (.t 4)),
  oo 9 (.mv (.t 0)),
  oo 10 (.len false (.t 9)),
  oo 11 (.bin .lss (.t 8) (.t 10))])
 (.cond (.t 11) .skip (.exit 0)))
 (.seq (.block 1 (rg [oo 14 (.mv (.t 3)),
  oo 15 (.mv (.t 4)),
  oo 16 (.mv (.t 0)),
  oo 17 (.mv (.t 4)),
  oo 18 (.iaddr 2 (.t 16) (.t 17)),
  oo 19 (.load true 2 (.t 18)),
  oo 20 (.call false 29 [(.t 19)]),
  oo 21 (.iaddr 2 (.t 14) (.t 15)),
  ⟨none, .store 2 (.t 21) (.t 20), none⟩]))
 (rg [oo 12 (.mv (.t 4)),
  oo 13 (.bin .add (.t 12) (ci 1)),
  oo 4 (.mv (.t 13))])))
def f55_r0 : AC :=
 (.seq (rg [oo 22 (.mv (.t 3)),
  oo 2 (.mv (.t 22))])
 .ret)
def f55_ac : AC :=
 (.seq (rg [oo 2 (.mv (.c (.nsl 2)))])
 (.seq (rg [oo 5 (.mv (.t 0)),
  oo 6 (.len false (.t 5)),
  oo 7 (.mkslice 7 2 16 (.agg [(.int .i64 0), (.int .i64 0)]) (.t 6) (.t 6)),
  oo 3 (.mv (.t 7))])
 (.seq (.seq (rg [oo 4 (.mv (ci 0))])
 (.block 0 (.loop ⟨[0, 4], [(3, 2, false)], []⟩ f55_b0)))
 f55_r0)))
noncomputable def f55_l0 (E : Env) (x0 : U) (x4 : U) (c3 : List U) : Option U := loopK (roundOf E ⟨[0, 4], [(3, 2, false)], []⟩ f55_b0 (blockK 0 (seqK (fun s => exec E f55_r0 s (finish [(2, none)])) (finish [(2, none)])))) ([.val x0, .val x4], [.vir (.asl 2 c3)])
theorem Qkz (E : Env) (x0 : U) (x4 : U) (c3 : List U) : f55_l0 E x0 x4 c3 =
 (U.lenOf false x0).bind fun n2 => (U.bin .lss x4 (.int .i64 (n2 : Int))).bind fun t3 => U.asBool t3
 (U.asInt x4 fun n4 => U.elemAt 2 x0 n4 fun e5 => U.asVar true 2 e5 fun e6 => (E 29 [e6]).bind fun t7 => U.asInt x4 fun n8 => if 2 = 2 ∧ 0 ≤ n8 ∧ n8 < ((c3).length : Int) then if storable (.val t7) = true ∧ t7.size = 2 then (c3[(n8 : Int).toNat]?).bind fun e9 => if e9.size = 2 then (U.bin .add x4 (.int .i64 1)).bind fun t10 => f55_l0 E x0 t10 (c3.set (n8 : Int).toNat t7) else none else none else none)
 (some (.sl 2 c3)) := (Qf E _ _ _ _).trans (by kernel_rfl)
structure G_f55 (E : Env) : Prop where
  is : Is E 28 1 f55_ac [(2, none)]
  c_f54 : G_f54 E
theorem f55_E {E : Env} (h : G_f55 E) (a0 : U) : E 28 [a0] =
 (U.lenOf false a0).bind fun n1 => if 0 ≤ (n1 : Int) ∧ (n1 : Int) ≤ (n1 : Int) ∧ (n1 : Int) * 16 ≤ 140737488355328 ∧ ((.agg [(.int .i64 0), (.int .i64 0)]) : U).size = 2 then f55_l0 E a0 (.int .i64 0) (List.replicate ((n1 : Int) : Int).toNat (.agg [(.int .i64 0), (.int .i64 0)])) else none := (h.is _ rfl).trans ((Qe rfl).trans (by kernel_rfl))
def f71_ac : AC :=
 (.seq (rg [oo 1 (.box false 1 (.t 0)),
  oo 2 (.alloc 2 (.agg [(.int .i64 0), (.int .i64 0)]))])
 (.seq (rg [oo 3 (.alloc 3 (.agg [(.int .i64 0), (.int .i64 0)]))])
 (.seq (rg [oo 4 (.faddr 0 0 (.t 1)),
  oo 5 (.load false 1 (.t 4)),
  oo 6 (.faddr 0 0 (.t 3)),
  ⟨none, .store 1 (.t 6) (.t 5), none⟩])
 (.seq (rg [oo 7 (.faddr 1 1 (.t 1)),
  oo 8 (.load false 1 (.t 7)),
  oo 9 (.faddr 1 1 (.t 3)),
  ⟨none, .store 1 (.t 9) (.t 8), none⟩])
 (.seq (rg [oo 10 (.load true 2 (.t 3)),
  ⟨none, .store 2 (.t 2) (.t 10), none⟩])
 .ret)))))
structure G_f71 (E : Env) : Prop where
  is : Is E 30 1 f71_ac [(2, some (true, 2))]
theorem f71_E {E : Env} (h : G_f71 E) (a0 : U) : E 30 [a0] =
 U.noTup a0 fun x1 => U.asAgg x1 fun us2 => if 0 = sizes (us2.take 0) then (us2[0]?).bind fun e3 => U.asVar false 1 e3 fun e4 => if storable (.val e4) = true ∧ e4.size = 1 then U.asAgg x1 fun us5 => if 1 = sizes (us5.take 1) then (us5[1]?).bind fun e6 => U.asVar false 1 e6 fun e7 => if storable (.val e7) = true ∧ e7.size = 1 then if 1 = sizes [e4] then U.asVar true 2 (.agg [e4, e7]) fun e8 => if storable (.val e8) = true ∧ e8.size = 2 then U.asVar true 2 e8 fun e9 => some e9 else none else none else none else none else none else none := (h.is _ rfl).trans ((Qe rfl).trans (by kernel_rfl))
def f72_b0 : AC :=
 (.seq (.seq (rg [oo 8 (.mv (.t 4)),
  oo 9 (.mv (.t 0)),
  oo 10 (.len false (.t 9)),
  oo 11 (.bin .lss (.t 8) (.t 10))])
 (.cond (.t 11) .skip (.exit 0)))
 (.seq (.block 1 (rg [oo 14 (.mv (.t 3)),
  oo 15 (.mv (.t 4)),
  oo 16 (.mv (.t 0)),
  oo 17 (.mv (.t 4)),
  oo 18 (.iaddr 2 (.t 16) (.t 17)),
  oo 19 (.load true 2 (.t 18)),
  oo 20 (.call false 30 [(.t 19)]),
  oo 21 (.iaddr 2 (.t 14) (.t 15)),
  ⟨none, .store 2 (.t 21) (.t 20), none⟩]))
 (rg [oo 12 (.mv (.t 4)),
  oo 13 (.bin .add (.t 12) (ci 1)),
  oo 4 (.mv (.t 13))])))
def f72_r0 : AC :=
 (.seq (rg [oo 22 (.mv (.t 3)),
  oo 2 (.mv (.t 22))])
 .ret)
def f72_ac : AC :=
 (.seq (rg [oo 2 (.mv (.c (.nsl 2)))])
 (.seq (rg [oo 5 (.mv (.t 0)),
  oo 6 (.len false (.t 5)),
  oo 7 (.mkslice 7 2 16 (.agg [(.int .i64 0), (.int .i64 0)]) (.t 6) (.t 6)),
  oo 3 (.mv (.t 7))])
 (.seq (.seq (rg [oo 4 (.mv (ci 0))])
 (.block 0 (.loop ⟨[0, 4], [(3, 2, false)], []⟩ f72_b0)))
 f72_r0)))
noncomputable def f72_l0 (E : Env) (x0 : U) (x4 : U) (c3 : List U) : Option U := loopK (roundOf E ⟨[0, 4], [(3, 2, false)], []⟩ f72_b0 (blockK 0 (seqK (fun s => exec E f72_r0 s (finish [(2, none)])) (finish [(2, none)])))) ([.val x0, .val x4], [.vir (.asl 2 c3)])
theorem Qln (E : Env) (x0 : U) (x4 : U) (c3 : List U) : f72_l0 E x0 x4 c3 =
 (U.lenOf false x0).bind fun n2 => (U.bin .lss x4 (.int .i64 (n2 : Int))).bind fun t3 => U.asBool t3
 (U.asInt x4 fun n4 => U.elemAt 2 x0 n4 fun e5 => U.asVar true 2 e5 fun e6 => (E 30 [e6]).bind fun t7 => U.asInt x4 fun n8 => if 2 = 2 ∧ 0 ≤ n8 ∧ n8 < ((c3).length : Int) then if storable (.val t7) = true ∧ t7.size = 2 then (c3[(n8 : Int).toNat]?).bind fun e9 => if e9.size = 2 then (U.bin .add x4 (.int .i64 1)).bind fun t10 => f72_l0 E x0 t10 (c3.set (n8 : Int).toNat t7) else none else none else none)
 (some (.sl 2 c3)) := (Qf E _ _ _ _).trans (by kernel_rfl)
structure G_f72 (E : Env) : Prop where
  is : Is E 27 1 f72_ac [(2, none)]
  c_f71 : G_f71 E
theorem f72_E {E : Env} (h : G_f72 E) (a0 : U) : E 27 [a0] =
 (U.lenOf false a0).bind fun n1 => if 0 ≤ (n1 : Int) ∧ (n1 : Int) ≤ (n1 : Int) ∧ (n1 : Int) * 16 ≤ 140737488355328 ∧ ((.agg [(.int .i64 0), (.int .i64 0)]) : U).size = 2 then f72_l0 E a0 (.int .i64 0) (List.replicate ((n1 : Int) : Int).toNat (.agg [(.int .i64 0), (.int .i64 0)])) else none := (h.is _ rfl).trans ((Qe rfl).trans (by kernel_rfl))
def f59_ac : AC :=
 (.seq (rg [oo 1 (.box false 1 (.t 0)),
  oo 2 (.alloc 2 (.agg [(.int .i64 0), (.int .i64 0), (.int .i64 0), (.int .i64 0), (.int .i64 0), (.int .i64 0), (.int .i64 0), (.nsl 2), (.nsl 2)]))])
 (.seq (rg [oo 3 (.alloc 3 (.agg [(.int .i64 0), (.int .i64 0), (.int .i64 0), (.int .i64 0), (.int .i64 0), (.int .i64 0), (.int .i64 0), (.nsl 2), (.nsl 2)]))])
 (.seq (rg [oo 4 (.faddr 0 0 (.t 1)),
  oo 5 (.load false 1 (.t 4)),
  oo 6 (.faddr 0 0 (.t 3)),
  ⟨none, .store 1 (.t 6) (.t 5), none⟩])
 (.seq (rg [oo 7 (.faddr 1 1 (.t 1)),
  oo 8 (.load false 1 (.t 7)),
  oo 9 (.faddr 1 1 (.t 3)),
  ⟨none, .store 1 (.t 9) (.t 8), none⟩])
 (.seq (rg [oo 10 (.faddr 2 2 (.t 1)),
  oo 11 (.load false 1 (.t 10)),
  oo 12 (.faddr 2 2 (.t 3)),
  ⟨none, .store 1 (.t 12) (.t 11), none⟩])
 (.seq (rg [oo 13 (.faddr 3 3 (.t 1)),
  oo 14 (.load false 1 (.t 13)),
  oo 15 (.faddr 3 3 (.t 3)),
  ⟨none, .store 1 (.t 15) (.t 14), none⟩])
 (.seq (rg [oo 16 (.faddr 4 4 (.t 1)),
  oo 17 (.load false 1 (.t 16)),
  oo 18 (.faddr 4 4 (.t 3)),
  ⟨none, .store 1 (.t 18) (.t 17), none⟩])
 (.seq (rg [oo 19 (.faddr 5 5 (.t 1)),
  oo 20 (.load false 1 (.t 19)),
  oo 21 (.faddr 5 5 (.t 3)),
  ⟨none, .store 1 (.t 21) (.t 20), none⟩])
 (.seq (rg [oo 22 (.faddr 6 6 (.t 1)),
  oo 23 (.load false 1 (.t 22)),
  oo 24 (.faddr 6 6 (.t 3)),
  ⟨none, .store 1 (.t 24) (.t 23), none⟩])
 (.seq (rg [oo 25 (.faddr 7 7 (.t 1)),
  oo 26 (.load false 1 (.t 25)),
  oo 27 (.call false 28 [(.t 26)]),
  oo 28 (.faddr 7 7 (.t 3)),
  ⟨none, .store 1 (.t 28) (.t 27), none⟩])
 (.seq (rg [oo 29 (.faddr 8 8 (.t 1)),
  oo 30 (.load false 1 (.t 29)),
  oo 31 (.call false 27 [(.t 30)]),
  oo 32 (.faddr 8 8 (.t 3)),
  ⟨none, .store 1 (.t 32) (.t 31), none⟩])
 (.seq (rg [oo 33 (.load true 9 (.t 3)),
  ⟨none, .store 9 (.t 2) (.t 33), none⟩])
 .ret))))))))))))
structure G_f59 (E : Env) : Prop where
  is : Is E 145 1 f59_ac [(2, some (true, 9))]
  c_f55 : G_f55 E
  c_f72 : G_f72 E
theorem f59_E {E : Env} (h : G_f59 E) (a0 : U) : E 145 [a0] =
 U.noTup a0 fun x1 => U.asAgg x1 fun us2 => if 0 = sizes (us2.take 0) then (us2[0]?).bind fun e3 => U.asVar false 1 e3 fun e4 => if storable (.val e4) = true ∧ e4.size = 1 then U.asAgg x1 fun us5 => if 1 = sizes (us5.take 1) then (us5[1]?).bind fun e6 => U.asVar false 1 e6 fun e7 => if storable (.val e7) = true ∧ e7.size = 1 then if 1 = sizes [e4] then U.asAgg x1 fun us8 => if 2 = sizes (us8.take 2) then (us8[2]?).bind fun e9 => U.asVar false 1 e9 fun e10 => if storable (.val e10) = true ∧ e10.size = 1 then if 2 = sizes [e4, e7] then U.asAgg x1 fun us11 => if 3 = sizes (us11.take 3) then (us11[3]?).bind fun e12 => U.asVar false 1 e12 fun e13 => if storable (.val e13) = true ∧ e13.size = 1 then if 3 = sizes [e4, e7, e10] then U.asAgg x1 fun us14 => if 4 = sizes (us14.take 4) then (us14[4]?).bind fun e15 => U.asVar false 1 e15 fun e16 => if storable (.val e16) = true ∧ e16.size = 1 then if 4 = sizes [e4, e7, e10, e13] then U.asAgg x1 fun us17 => if 5 = sizes (us17.take 5) then (us17[5]?).bind fun e18 => U.asVar false 1 e18 fun e19 => if storable (.val e19) = true ∧ e19.size = 1 then if 5 = sizes [e4, e7, e10, e13, e16] then U.asAgg x1 fun us20 => if 6 = sizes (us20.take 6) then (us20[6]?).bind fun e21 => U.asVar false 1 e21 fun e22 => if storable (.val e22) = true ∧ e22.size = 1 then if 6 = sizes [e4, e7, e10, e13, e16, e19] then U.asAgg x1 fun us23 => if 7 = sizes (us23.take 7) then (us23[7]?).bind fun e24 => U.asVar false 1 e24 fun e25 => (E 28 [e25]).bind fun t26 => if storable (.val t26) = true ∧ t26.size = 1 then if 7 = sizes [e4, e7, e10, e13, e16, e19, e22] then U.asAgg x1 fun us27 => if 8 = sizes (us27.take 8) then (us27[8]?).bind fun e28 => U.asVar false 1 e28 fun e29 => (E 27 [e29]).bind fun t30 => if storable (.val t30) = true ∧ t30.size = 1 then if 8 = sizes [e4, e7, e10, e13, e16, e19, e22, t26] then U.asVar true 9 (.agg [e4, e7, e10, e13, e16, e19, e22, t26, t30]) fun e31 => if storable (.val e31) = true ∧ e31.size = 9 then U.asVar true 9 e31 fun e32 => some e32 else none else none else none else none else none else none else none else none else none else none else none else none else none else none else none else none else none else none else none else none else none else none else none else none else none else none else none := (h.is _ rfl).trans ((Qe rfl).trans (by kernel_rfl))
def f60_b0 : AC :=
 (.seq (.seq (rg [oo 8 (.mv (.t 4)),
  oo 9 (.mv (.t 0)),
  oo 10 (.len false (.t 9)),
  oo 11 (.bin .lss (.t 8) (.t 10))])
 (.cond (.t 11) .skip (.exit 0)))
 (.seq (.block 1 (rg [oo 14 (.mv (.t 3)),
  oo 15 (.mv (.t 4)),
  oo 16 (.mv (.t 0)),
  oo 17 (.mv (.t 4)),
  oo 18 (.iaddr 9 (.t 16) (.t 17)),
  oo 19 (.load true 9 (.t 18)),
  oo 20 (.call false 145 [(.t 19)]),
  oo 21 (.iaddr 9 (.t 14) (.t 15)),
  ⟨none, .store 9 (.t 21) (.t 20), none⟩]))
 (rg [oo 12 (.mv (.t 4)),
  oo 13 (.bin .add (.t 12) (ci 1)),
  oo 4 (.mv (.t 13))])))
def f60_r0 : AC :=
 (.seq (rg [oo 22 (.mv (.t 3)),
  oo 2 (.mv (.t 22))])
 .ret)
def f60_ac : AC :=
 (.seq (rg [oo 2 (.mv (.c (.nsl 9)))])
 (.seq (rg [oo 5 (.mv (.t 0)),
  oo 6 (.len false (.t 5)),
  oo 7 (.mkslice 7 9 104 (.agg [(.int .i64 0), (.int .i64 0), (.int .i64 0), (.int .i64 0), (.int .i64 0), (.int .i64 0), (.int .i64 0), (.nsl 2), (.nsl 2)]) (.t 6) (.t 6)),
  oo 3 (.mv (.t 7))])
 (.seq (.seq (rg [oo 4 (.mv (ci 0))])
 (.block 0 (.loop ⟨[0, 4], [(3, 9, false)], []⟩ f60_b0)))
 f60_r0)))
noncomputable def f60_l0 (E : Env) (x0 : U) (x4 : U) (c3 : List U) : Option U := loopK (roundOf E ⟨[0, 4], [(3, 9, false)], []⟩ f60_b0 (blockK 0 (seqK (fun s => exec E f60_r0 s (finish [(2, none)])) (finish [(2, none)])))) ([.val x0, .val x4], [.vir (.asl 9 c3)])
theorem Qk3 (E : Env) (x0 : U) (x4 : U) (c3 : List U) : f60_l0 E x0 x4 c3 =
 (U.lenOf false x0).bind fun n2 => (U.bin .lss x4 (.int .i64 (n2 : Int))).bind fun t3 => U.asBool t3
 (U.asInt x4 fun n4 => U.elemAt 9 x0 n4 fun e5 => U.asVar true 9 e5 fun e6 => (E 145 [e6]).bind fun t7 => U.asInt x4 fun n8 => if 9 = 9 ∧ 0 ≤ n8 ∧ n8 < ((c3).length : Int) then if storable (.val t7) = true ∧ t7.size = 9 then (c3[(n8 : Int).toNat]?).bind fun e9 => if e9.size = 9 then (U.bin .add x4 (.int .i64 1)).bind fun t10 => f60_l0 E x0 t10 (c3.set (n8 : Int).toNat t7) else none else none else none)
 (some (.sl 9 c3)) := (Qf E _ _ _ _).trans (by kernel_rfl)
structure G_f60 (E : Env) : Prop where
  is : Is E 144 1 f60_ac [(2, none)]
  c_f59 : G_f59 E
theorem f60_E {E : Env} (h : G_f60 E) (a0 : U) : E 144 [a0] =
 (U.lenOf false a0).bind fun n1 => if 0 ≤ (n1 : Int) ∧ (n1 : Int) ≤ (n1 : Int) ∧ (n1 : Int) * 104 ≤ 140737488355328 ∧ ((.agg [(.int .i64 0), (.int .i64 0), (.int .i64 0), (.int .i64 0), (.int .i64 0), (.int .i64 0), (.int .i64 0), (.nsl 2), (.nsl 2)]) : U).size = 9 then f60_l0 E a0 (.int .i64 0) (List.replicate ((n1 : Int) : Int).toNat (.agg [(.int .i64 0), (.int .i64 0), (.int .i64 0), (.int .i64 0), (.int .i64 0), (.int .i64 0), (.int .i64 0), (.nsl 2), (.nsl 2)])) else none := (h.is _ rfl).trans ((Qe rfl).trans (by kernel_rfl))
def f51_ac : AC :=
 (.seq (rg [oo 1 (.box false 1 (.t 0)),
  oo 2 (.alloc 2 (.agg [(.int .i64 0), (.int .i64 0)]))])
 (.seq (rg [oo 3 (.alloc 3 (.agg [(.int .i64 0), (.int .i64 0)]))])
 (.seq (rg [oo 4 (.faddr 0 0 (.t 1)),
  oo 5 (.load false 1 (.t 4)),
  oo 6 (.faddr 0 0 (.t 3)),
  ⟨none, .store 1 (.t 6) (.t 5), none⟩])
 (.seq (rg [oo 7 (.faddr 1 1 (.t 1)),
  oo 8 (.load false 1 (.t 7)),
  oo 9 (.faddr 1 1 (.t 3)),
  ⟨none, .store 1 (.t 9) (.t 8), none⟩])
 (.seq (rg [oo 10 (.load true 2 (.t 3)),
  ⟨none, .store 2 (.t 2) (.t 10), none⟩])
 .ret)))))
structure G_f51 (E : Env) : Prop where
  is : Is E 146 1 f51_ac [(2, some (true, 2))]
theorem f51_E {E : Env} (h : G_f51 E) (a0 : U) : E 146 [a0] =
 U.noTup a0 fun x1 => U.asAgg x1 fun us2 => if 0 = sizes (us2.take 0) then (us2[0]?).bind fun e3 => U.asVar false 1 e3 fun e4 => if storable (.val e4) = true ∧ e4.size = 1 then U.asAgg x1 fun us5 => if 1 = sizes (us5.take 1) then (us5[1]?).bind fun e6 => U.asVar false 1 e6 fun e7 => if storable (.val e7) = true ∧ e7.size = 1 then if 1 = sizes [e4] then U.asVar true 2 (.agg [e4, e7]) fun e8 => if storable (.val e8) = true ∧ e8.size = 2 then U.asVar true 2 e8 fun e9 => some e9 else none else none else none else none else none else none := (h.is _ rfl).trans ((Qe rfl).trans (by kernel_rfl))
def f52_b0 : AC :=
 (.seq (.seq (rg [oo 8 (.mv (.t 4)),
  oo 9 (.mv (.t 0)),
  oo 10 (.len false (.t 9)),
  oo 11 (.bin .lss (.t 8) (.t 10))])
 (.cond (.t 11) .skip (.exit 0)))
 (.seq (.block 1 (rg [oo 14 (.mv (.t 3)),
  oo 15 (.mv (.t 4)),
  oo 16 (.mv (.t 0)),
  oo 17 (.mv (.t 4)),
  oo 18 (.iaddr 2 (.t 16) (.t 17)),
  oo 19 (.load true 2 (.t 18)),
  oo 20 (.call false 146 [(.t 19)]),
  oo 21 (.iaddr 2 (.t 14) (.t 15)),
  ⟨none, .store 2 (.t 21) (.t 20), none⟩]))
 (rg [oo 12 (.mv (.t 4)),
  oo 13 (.bin .add (.t 12) (ci 1)),
  oo 4 (.mv (.t 13))])))
def f52_r0 : AC :=
 (.seq (rg [oo 22 (.mv (.t 3)),
  oo 2 (.mv (.t 22))])
 .ret)
def f52_ac : AC :=
 (.seq (rg [oo 2 (.mv (.c (.nsl 2)))])
 (.seq (rg [oo 5 (.mv (.t 0)),
  oo 6 (.len false (.t 5)),
  oo 7 (.mkslice 7 2 16 (.agg [(.int .i64 0), (.int .i64 0)]) (.t 6) (.t 6)),
  oo 3 (.mv (.t 7))])
 (.seq (.seq (rg [oo 4 (.mv (ci 0))])
 (.block 0 (.loop ⟨[0, 4], [(3, 2, false)], []⟩ f52_b0)))
 f52_r0)))
noncomputable def f52_l0 (E : Env) (x0 : U) (x4 : U) (c3 : List U) : Option U := loopK (roundOf E ⟨[0, 4], [(3, 2, false)], []⟩ f52_b0 (blockK 0 (seqK (fun s => exec E f52_r0 s (finish [(2, none)])) (finish [(2, none)])))) ([.val x0, .val x4], [.vir (.asl 2 c3)])
theorem Qku (E : Env) (x0 : U) (x4 : U) (c3 : List U) : f52_l0 E x0 x4 c3 =
 (U.lenOf false x0).bind fun n2 => (U.bin .lss x4 (.int .i64 (n2 : Int))).bind fun t3 => U.asBool t3
 (U.asInt x4 fun n4 => U.elemAt 2 x0 n4 fun e5 => U.asVar true 2 e5 fun e6 => (E 146 [e6]).bind fun t7 => U.asInt x4 fun n8 => if 2 = 2 ∧ 0 ≤ n8 ∧ n8 < ((c3).length : Int) then if storable (.val t7) = true ∧ t7.size = 2 then (c3[(n8 : Int).toNat]?).bind fun e9 => if e9.size = 2 then (U.bin .add x4 (.int .i64 1)).bind fun t10 => f52_l0 E x0 t10 (c3.set (n8 : Int).toNat t7) else none else none else none)
 (some (.sl 2 c3)) := (Qf E _ _ _ _).trans (by kernel_rfl)
structure G_f52 (E : Env) : Prop where
  is : Is E 143 1 f52_ac [(2, none)]
  c_f51 : G_f51 E
theorem f52_E {E : Env} (h : G_f52 E) (a0 : U) : E 143 [a0] =
 (U.lenOf false a0).bind fun n1 => if 0 ≤ (n1 : Int) ∧ (n1 : Int) ≤ (n1 : Int) ∧ (n1 : Int) * 16 ≤ 140737488355328 ∧ ((.agg [(.int .i64 0), (.int .i64 0)]) : U).size = 2 then f52_l0 E a0 (.int .i64 0) (List.replicate ((n1 : Int) : Int).toNat (.agg [(.int .i64 0), (.int .i64 0)])) else none := (h.is _ rfl).trans ((Qe rfl).trans (by kernel_rfl))
def f68_ac : AC :=
 (.seq (rg [oo 1 (.box false 1 (.t 0)),
  oo 2 (.alloc 2 (.agg [(.int .i64 0), (.int .i64 0)]))])
 (.seq (rg [oo 3 (.alloc 3 (.agg [(.int .i64 0), (.int .i64 0)]))])
 (.seq (rg [oo 4 (.faddr 0 0 (.t 1)),
  oo 5 (.load false 1 (.t 4)),
  oo 6 (.faddr 0 0 (.t 3)),
  ⟨none, .store 1 (.t 6) (.t 5), none⟩])
 (.seq (rg [oo 7 (.faddr 1 1 (.t 1)),
  oo 8 (.load false 1 (.t 7)),
  oo 9 (.faddr 1 1 (.t 3)),
  ⟨none, .store 1 (.t 9) (.t 8), none⟩])
 (.seq (rg [oo 10 (.load true 2 (.t 3)),
  ⟨none, .store 2 (.t 2) (.t 10), none⟩])
 .ret)))))
structure G_f68 (E : Env) : Prop where
  is : Is E 147 1 f68_ac [(2, some (true, 2))]
theorem f68_E {E : Env} (h : G_f68 E) (a0 : U) : E 147 [a0] =
 U.noTup a0 fun x1 => U.asAgg x1 fun us2 => if 0 = sizes (us2.take 0) then (us2[0]?).bind fun e3 => U.asVar false 1 e3 fun e4 => if storable (.val e4) = true ∧ e4.size = 1 then U.asAgg x1 fun us5 => if 1 = sizes (us5.take 1) then (us5[1]?).bind fun e6 => U.asVar false 1 e6 fun e7 => if storable (.val e7) = true ∧ e7.size = 1 then if 1 = sizes [e4] then U.asVar true 2 (.agg [e4, e7]) fun e8 => if storable (.val e8) = true ∧ e8.size = 2 then U.asVar true 2 e8 fun e9 => some e9 else none else none else none else none else none else none := (h.is _ rfl).trans ((Qe rfl).trans (by kernel_rfl))
def f69_b0 : AC :=
 (.seq (.seq (rg [oo 8 (.mv (.t 4)),
  oo 9 (.mv (.t 0)),
  oo 10 (.len false (.t 9)),
  oo 11 (.bin .lss (.t 8) (.t 10))])
 (.cond (.t 11) .skip (.exit 0)))
 (.seq (.block 1 (rg [oo 14 (.mv (.t 3)),
  oo 15 (.mv (.t 4)),
  oo 16 (.mv (.t 0)),
  oo 17 (.mv (.t 4)),
  oo 18 (.iaddr 2 (.t 16) (.t 17)),
  oo 19 (.load true 2 (.t 18)),
  oo 20 (.call false 147 [(.t 19)]),
  oo 21 (.iaddr 2 (.t 14) (.t 15)),
  ⟨none, .store 2 (.t 21) (.t 20), none⟩]))
 (rg [oo 12 (.mv (.t 4)),
  oo 13 (.bin .add (.t 12) (ci 1)),
  oo 4 (.mv (.t 13))])))
def f69_r0 : AC :=
 (.seq (rg [oo 22 (.mv (.t 3)),
  oo 2 (.mv (.t 22))])
 .ret)
def f69_ac : AC :=
 (.seq (rg [oo 2 (.mv (.c (.nsl 2)))])
 (.seq (rg [oo 5 (.mv (.t 0)),
  oo 6 (.len false (.t 5)),
  oo 7 (.mkslice 7 2 16 (.agg [(.int .i64 0), (.int .i64 0)]) (.t 6) (.t 6)),
  oo 3 (.mv (.t 7))])
 (.seq (.seq (rg [oo 4 (.mv (ci 0))])
 (.block 0 (.loop ⟨[0, 4], [(3, 2, false)], []⟩ f69_b0)))
 f69_r0)))
noncomputable def f69_l0 (E : Env) (x0 : U) (x4 : U) (c3 : List U) : Option U := loopK (roundOf E ⟨[0, 4], [(3, 2, false)], []⟩ f69_b0 (blockK 0 (seqK (fun s => exec E f69_r0 s (finish [(2, none)])) (finish [(2, none)])))) ([.val x0, .val x4], [.vir (.asl 2 c3)])
theorem Qli (E : Env) (x0 : U) (x4 : U) (c3 : List U) : f69_l0 E x0 x4 c3 =
 (U.lenOf false x0).bind fun n2 => (U.bin .lss x4 (.int .i64 (n2 : Int))).bind fun t3 => U.asBool t3
 (U.asInt x4 fun n4 => U.elemAt 2 x0 n4 fun e5 => U.asVar true 2 e5 fun e6 => (E 147 [e6]).bind fun t7 => U.asInt x4 fun n8 => if 2 = 2 ∧ 0 ≤ n8 ∧ n8 < ((c3).length : Int) then if storable (.val t7) = true ∧ t7.size = 2 then (c3[(n8 : Int).toNat]?).bind fun e9 => if e9.size = 2 then (U.bin .add x4 (.int .i64 1)).bind fun t10 => f69_l0 E x0 t10 (c3.set (n8 : Int).toNat t7) else none else none else none)
 (some (.sl 2 c3)) := (Qf E _ _ _ _).trans (by kernel_rfl)
structure G_f69 (E : Env) : Prop where
  is : Is E 142 1 f69_ac [(2, none)]
  c_f68 : G_f68 E
theorem f69_E {E : Env} (h : G_f69 E) (a0 : U) : E 142 [a0] =
 (U.lenOf false a0).bind fun n1 => if 0 ≤ (n1 : Int) ∧ (n1 : Int) ≤ (n1 : Int) ∧ (n1 : Int) * 16 ≤ 140737488355328 ∧ ((.agg [(.int .i64 0), (.int .i64 0)]) : U).size = 2 then f69_l0 E a0 (.int .i64 0) (List.replicate ((n1 : Int) : Int).toNat (.agg [(.int .i64 0), (.int .i64 0)])) else none := (h.is _ rfl).trans ((Qe rfl).trans (by kernel_rfl))
def f49_ac : AC :=
 (.seq (rg [oo 1 (.box false 1 (.t 0)),
  oo 2 (.alloc 2 (.agg [(.bool false), (.agg [(.nsl 1)]), (.nsl 9), (.nsl 2), (.nsl 2), (.int .i64 0)]))])
 (.seq (rg [oo 3 (.alloc 3 (.agg [(.bool false), (.agg [(.nsl 1)]), (.nsl 9), (.nsl 2), (.nsl 2), (.int .i64 0)]))])
 (.seq (rg [oo 4 (.faddr 0 0 (.t 1)),
  oo 5 (.load false 1 (.t 4)),
  oo 6 (.faddr 0 0 (.t 3)),
  ⟨none, .store 1 (.t 6) (.t 5), none⟩])
 (.seq (rg [oo 7 (.faddr 1 1 (.t 1)),
  oo 8 (.load true 1 (.t 7)),
  oo 9 (.call false 93 [(.t 8)]),
  oo 10 (.faddr 1 1 (.t 3)),
  ⟨none, .store 1 (.t 10) (.t 9), none⟩])
 (.seq (rg [oo 11 (.faddr 2 2 (.t 1)),
  oo 12 (.load false 1 (.t 11)),
  oo 13 (.call false 144 [(.t 12)]),
  oo 14 (.faddr 2 2 (.t 3)),
  ⟨none, .store 1 (.t 14) (.t 13), none⟩])
 (.seq (rg [oo 15 (.faddr 3 3 (.t 1)),
  oo 16 (.load false 1 (.t 15)),
  oo 17 (.call false 143 [(.t 16)]),
  oo 18 (.faddr 3 3 (.t 3)),
  ⟨none, .store 1 (.t 18) (.t 17), none⟩])
 (.seq (rg [oo 19 (.faddr 4 4 (.t 1)),
  oo 20 (.load false 1 (.t 19)),
  oo 21 (.call false 142 [(.t 20)]),
  oo 22 (.faddr 4 4 (.t 3)),
  ⟨none, .store 1 (.t 22) (.t 21), none⟩])
 (.seq (rg [oo 23 (.faddr 5 5 (.t 1)),
  oo 24 (.load false 1 (.t 23)),
  oo 25 (.faddr 5 5 (.t 3)),
  ⟨none, .store 1 (.t 25) (.t 24), none⟩])
 (.seq (rg [oo 26 (.load true 6 (.t 3)),
  ⟨none, .store 6 (.t 2) (.t 26), none⟩])
 .ret)))))))))
structure G_f49 (E : Env) : Prop where
  is : Is E 124 1 f49_ac [(2, some (true, 6))]
  c_f57 : G_f57 E
  c_f60 : G_f60 E
  c_f52 : G_f52 E
  c_f69 : G_f69 E
theorem f49_E {E : Env} (h : G_f49 E) (a0 : U) : E 124 [a0] =
 U.noTup a0 fun x1 => U.asAgg x1 fun us2 => if 0 = sizes (us2.take 0) then (us2[0]?).bind fun e3 => U.asVar false 1 e3 fun e4 => if storable (.val e4) = true ∧ e4.size = 1 then U.asAgg x1 fun us5 => if 1 = sizes (us5.take 1) then (us5[1]?).bind fun e6 => U.asVar true 1 e6 fun e7 => (E 93 [e7]).bind fun t8 => if storable (.val t8) = true ∧ t8.size = 1 then if 1 = sizes [e4] then U.asAgg x1 fun us9 => if 2 = sizes (us9.take 2) then (us9[2]?).bind fun e10 => U.asVar false 1 e10 fun e11 => (E 144 [e11]).bind fun t12 => if storable (.val t12) = true ∧ t12.size = 1 then if 2 = sizes [e4, t8] then U.asAgg x1 fun us13 => if 3 = sizes (us13.take 3) then (us13[3]?).bind fun e14 => U.asVar false 1 e14 fun e15 => (E 143 [e15]).bind fun t16 => if storable (.val t16) = true ∧ t16.size = 1 then if 3 = sizes [e4, t8, t12] then U.asAgg x1 fun us17 => if 4 = sizes (us17.take 4) then (us17[4]?).bind fun e18 => U.asVar false 1 e18 fun e19 => (E 142 [e19]).bind fun t20 => if storable (.val t20) = true ∧ t20.size = 1 then if 4 = sizes [e4, t8, t12, t16] then U.asAgg x1 fun us21 => if 5 = sizes (us21.take 5) then (us21[5]?).bind fun e22 => U.asVar false 1 e22 fun e23 => if storable (.val e23) = true ∧ e23.size = 1 then if 5 = sizes [e4, t8, t12, t16, t20] then U.asVar true 6 (.agg [e4, t8, t12, t16, t20, e23]) fun e24 => if storable (.val e24) = true ∧ e24.size = 6 then U.asVar true 6 e24 fun e25 => some e25 else none else none else none else none else none else none else none else none else none else none else none else none else none else none else none else none else none else none := (h.is _ rfl).trans ((Qe rfl).trans (by kernel_rfl))
def f2_ac : AC :=
 (.seq (rg [oo 1 (.box false 1 (.t 0)),
  oo 2 (.mv (.c (.bool false)))])
 (.seq (rg [oo 3 (.faddr 2 2 (.t 1)),
  oo 4 (.load false 1 (.t 3)),
  oo 5 (.bin .eql (.t 4) (ci 3)),
  oo 2 (.mv (.t 5))])
 .ret))
structure G_f2 (E : Env) : Prop where
  is : Is E 345 1 f2_ac [(2, none)]
theorem f2_E {E : Env} (h : G_f2 E) (a0 : U) : E 345 [a0] =
 U.noTup a0 fun x1 => U.asAgg x1 fun us2 => if 2 = sizes (us2.take 2) then (us2[2]?).bind fun e3 => U.asVar false 1 e3 fun e4 => (U.bin .eql e4 (.int .i64 3)).bind fun t5 => some t5 else none := (h.is _ rfl).trans ((Qe rfl).trans (by kernel_rfl))
def f74_ac : AC :=
 (.seq (rg [oo 2 (.mv (.c (.nsl 5)))])
 (.seq (.seq (rg [oo 3 (.mv (.t 0)),
  oo 4 (.eqnil false (.t 3))])
 (.cond (.t 4) (.seq (rg [oo 2 (.mv (.c (.nsl 5)))])
 .ret) .skip))
 (.seq (rg [oo 5 (.bslice 1 5 5 0 (.agg [(.int .i64 0), (.int .i64 0), (.int .i64 0), (.int .i64 0), (.int .i64 0)]) []),
  oo 6 (.mv (.t 0)),
  oo 7 (.append false 7 5 40 (.t 5) (.t 6)),
  oo 2 (.mv (.t 7))])
 .ret)))
theorem Qug (E : Env) (a0 : U) : run E f74_ac [(2, none)] [a0] =
 (U.isNil a0).bind fun q1 => U.asBool (.bool q1)
 (some (.nsl 5))
 ((U.elems 5 a0).bind fun ys2 => if 5 = 5 ∧ 5 = 5 ∧ ((([] : List U)).length + (ys2 : List U).length) * 40 ≤ 140737488355328 then some (.sl 5 (([] : List U) ++ ys2)) else none) := by kernel_rfl
theorem Quf (E : Env) (a0 : U) : exec E f74_ac (start [a0]) (finishF [(2, none)]) =
 (U.isNil a0).bind fun q1 => U.asBool (.bool q1)
 (some (.sl 5 []))
 ((U.elems 5 a0).bind fun ys2 => if 5 = 5 ∧ 5 = 5 ∧ ((([] : List U)).length + (ys2 : List U).length) * 40 ≤ 140737488355328 then if U.flat.flats (([] : List U) ++ ys2) = true then some (.sl 5 (([] : List U) ++ ys2)) else none else none) := by kernel_rfl
theorem Quj : CloneOK f74_ac 5 40 where
  v := fun E u us h => by
    rw [Qug]
    simp [U.isNil, U.elems, h]
  f := fun E u us h hf => by
    rw [Quf]
    simp [U.isNil, U.elems, h, hf]
  vn := fun E => by kernel_rfl
  fn := fun E => by kernel_rfl
  vt := fun E => by kernel_rfl
  vf := fun E => by kernel_rfl
  ft := fun E => by kernel_rfl
  ff := fun E => by kernel_rfl
def f4_b0 : AC :=
 (.seq (rg [oo 11 (.bin .lss (.t 10) (.t 9))])
 (.seq (.cond (.t 11) .skip (.exit 0))
 (.seq (.block 1 (.seq (rg [oo 12 (.iaddr 1 (.t 8) (.t 10)),
  oo 13 (.load false 1 (.t 12)),
  oo 5 (.mv (.t 13))])
 (.regC 5 [17, 18] [oo 14 (.faddr 0 0 (.t 3)),
  oo 15 (.loadO (.sl 1) (.t 14)),
  oo 16 (.mv (.t 5)),
  oo 17 (.callF 17 false [(.sl 5)] 223 [(.t 16)]),
  oo 18 (.bslice 2 18 1 1 (.nsl 5) [(0, (.t 17))]),
  oo 19 (.append true 19 1 24 (.t 15) (.t 18)),
  oo 20 (.faddr 0 0 (.t 3)),
  ⟨none, .storeE 1 (.t 20) (.t 19), none⟩])))
 (rg [oo 21 (.bin .add (.t 10) (ci 1)),
  oo 10 (.mv (.t 21))]))))
def f4_r0 : AC :=
 (.seq (rg [oo 22 (.loadO (.agg [(.sl 1)]) (.t 3)),
  ⟨none, .storeM 3000 1 (.t 2) (.t 22), none⟩])
 .ret)
def f4_ac : AC :=
 (.seq (rg [oo 1 (.box false 1 (.t 0)),
  oo 2 (.alloc 2 (.agg [(.nsl 1)]))])
 (.seq (rg [oo 6 (.build [(.nsl 1)] []),
  oo 3 (.alloc 3 (.agg [(.nsl 1)])),
  ⟨none, .store 1 (.t 3) (.t 6), none⟩])
 (.seq (.seq (rg [oo 7 (.faddr 0 0 (.t 1)),
  oo 8 (.load false 1 (.t 7)),
  oo 9 (.len false (.t 8)),
  oo 10 (.mv (ci 0))])
 (.block 0 (.loop ⟨[2, 3, 8, 9, 10], [], [(2, false), (3, false)]⟩ f4_b0)))
 f4_r0)))
noncomputable def f4_l0a (E : Env) (x8 : U) (x9 : U) (x10 : U) : Option U := loopK (roundOf E ⟨[2, 3, 8, 9, 10], [], [(2, false), (3, false)]⟩ f4_b0 (blockK 0 (seqK (fun s => exec E f4_r0 s (finishF [(2, some (true, 1))])) (finishF [(2, some (true, 1))])))) ([.ptr 2 [], .ptr 3 [], .val x8, .val x9, .val x10], [.box (.val (.agg [(.nsl 1)])), .box (.val (.agg [(.nsl 1)]))])
noncomputable def f4_l0b (E : Env) (x8 : U) (x9 : U) (x10 : U) (b3 : List U) : Option U := loopK (roundOf E ⟨[2, 3, 8, 9, 10], [], [(2, false), (3, false)]⟩ f4_b0 (blockK 0 (seqK (fun s => exec E f4_r0 s (finishF [(2, some (true, 1))])) (finishF [(2, some (true, 1))])))) ([.ptr 2 [], .ptr 3 [], .val x8, .val x9, .val x10], [.box (.val (.agg [(.nsl 1)])), .box (.agg [.own (.sl 1 b3)])])
theorem Qs5 (E : Env) (x8 : U) (x9 : U) (x10 : U) : f4_l0a E x8 x9 x10 =
 (U.bin .lss x10 x9).bind fun t6 => U.asBool t6
 (U.asInt x10 fun n7 => U.elemAt 1 x8 n7 fun e8 => U.asVar false 1 e8 fun e9 => (E 100223 [e9]).bind fun t10 => U.noTup t10 fun x11 => U.asSlK 5 x11 fun us12 => if 1 = 1 ∧ ([(.sl 5 us12)] : List U).length * 24 ≤ 140737488355328 then (U.bin .add x10 (.int .i64 1)).bind fun t13 => f4_l0b E x8 x9 t13 [(.sl 5 us12)] else none)
 (some (.agg [(.sl 1 [])])) := (Qf E _ _ _ _).trans (by kernel_rfl)
theorem Qkr (E : Env) (x8 : U) (x9 : U) (x10 : U) (b3 : List U) : f4_l0b E x8 x9 x10 b3 =
 (U.bin .lss x10 x9).bind fun t14 => U.asBool t14
 (U.asInt x10 fun n15 => U.elemAt 1 x8 n15 fun e16 => U.asVar false 1 e16 fun e17 => (E 100223 [e17]).bind fun t18 => U.noTup t18 fun x19 => U.asSlK 5 x19 fun us20 => if ((b3).length + ([(.sl 5 us20)] : List U).length) * 24 ≤ 140737488355328 then (U.bin .add x10 (.int .i64 1)).bind fun t21 => f4_l0b E x8 x9 t21 (b3 ++ ([(.sl 5 us20)] : List U)) else none)
 (some (.agg [(.sl 1 b3)])) := (Qf E _ _ _ _).trans (by kernel_rfl)
structure G_f4 (E : Env) : Prop where
  is : Is E 100221 1 f4_ac [(2, some (true, 1))]
  c_f74 : IsClone E 223 5 40
theorem f4_E {E : Env} (h : G_f4 E) (a0 : U) : E 100221 [a0] =
 U.noTup a0 fun x1 => U.asAgg x1 fun us2 => if 0 = sizes (us2.take 0) then (us2[0]?).bind fun e3 => U.asVar false 1 e3 fun e4 => (U.lenOf false e4).bind fun n5 => f4_l0a E e4 (.int .i64 (n5 : Int)) (.int .i64 0) else none := (h.is _ rfl).trans ((Qt rfl).trans (by kernel_rfl))
def f75_ac : AC :=
 (.seq (rg [oo 2 (.mv (.c (.nsl 2)))])
 (.seq (.seq (rg [oo 3 (.mv (.t 0)),
  oo 4 (.eqnil false (.t 3))])
 (.cond (.t 4) (.seq (rg [oo 2 (.mv (.c (.nsl 2)))])
 .ret) .skip))
 (.seq (rg [oo 5 (.bslice 1 5 2 0 (.agg [(.int .i64 0), (.int .i64 0)]) []),
  oo 6 (.mv (.t 0)),
  oo 7 (.append false 7 2 16 (.t 5) (.t 6)),
  oo 2 (.mv (.t 7))])
 .ret)))
theorem Qul (E : Env) (a0 : U) : run E f75_ac [(2, none)] [a0] =
 (U.isNil a0).bind fun q1 => U.asBool (.bool q1)
 (some (.nsl 2))
 ((U.elems 2 a0).bind fun ys2 => if 2 = 2 ∧ 2 = 2 ∧ ((([] : List U)).length + (ys2 : List U).length) * 16 ≤ 140737488355328 then some (.sl 2 (([] : List U) ++ ys2)) else none) := by kernel_rfl
theorem Quk (E : Env) (a0 : U) : exec E f75_ac (start [a0]) (finishF [(2, none)]) =
 (U.isNil a0).bind fun q1 => U.asBool (.bool q1)
 (some (.sl 2 []))
 ((U.elems 2 a0).bind fun ys2 => if 2 = 2 ∧ 2 = 2 ∧ ((([] : List U)).length + (ys2 : List U).length) * 16 ≤ 140737488355328 then if U.flat.flats (([] : List U) ++ ys2) = true then some (.sl 2 (([] : List U) ++ ys2)) else none else none) := by kernel_rfl
theorem Quo : CloneOK f75_ac 2 16 where
  v := fun E u us h => by
    rw [Qul]
    simp [U.isNil, U.elems, h]
  f := fun E u us h hf => by
    rw [Quk]
    simp [U.isNil, U.elems, h, hf]
  vn := fun E => by kernel_rfl
  fn := fun E => by kernel_rfl
  vt := fun E => by kernel_rfl
  vf := fun E => by kernel_rfl
  ft := fun E => by kernel_rfl
  ff := fun E => by kernel_rfl
def f76_ac : AC :=
 (.seq (rg [oo 2 (.mv (.c (.nsl 2)))])
 (.seq (.seq (rg [oo 3 (.mv (.t 0)),
  oo 4 (.eqnil false (.t 3))])
 (.cond (.t 4) (.seq (rg [oo 2 (.mv (.c (.nsl 2)))])
 .ret) .skip))
 (.seq (rg [oo 5 (.bslice 1 5 2 0 (.agg [(.int .i64 0), (.int .i64 0)]) []),
  oo 6 (.mv (.t 0)),
  oo 7 (.append false 7 2 16 (.t 5) (.t 6)),
  oo 2 (.mv (.t 7))])
 .ret)))
theorem Quq (E : Env) (a0 : U) : run E f76_ac [(2, none)] [a0] =
 (U.isNil a0).bind fun q1 => U.asBool (.bool q1)
 (some (.nsl 2))
 ((U.elems 2 a0).bind fun ys2 => if 2 = 2 ∧ 2 = 2 ∧ ((([] : List U)).length + (ys2 : List U).length) * 16 ≤ 140737488355328 then some (.sl 2 (([] : List U) ++ ys2)) else none) := by kernel_rfl
theorem Qup (E : Env) (a0 : U) : exec E f76_ac (start [a0]) (finishF [(2, none)]) =
 (U.isNil a0).bind fun q1 => U.asBool (.bool q1)
 (some (.sl 2 []))
 ((U.elems 2 a0).bind fun ys2 => if 2 = 2 ∧ 2 = 2 ∧ ((([] : List U)).length + (ys2 : List U).length) * 16 ≤ 140737488355328 then if U.flat.flats (([] : List U) ++ ys2) = true then some (.sl 2 (([] : List U) ++ ys2)) else none else none) := by kernel_rfl
theorem Qut : CloneOK f76_ac 2 16 where
  v := fun E u us h => by
    rw [Quq]
    simp [U.isNil, U.elems, h]
  f := fun E u us h hf => by
    rw [Qup]
    simp [U.isNil, U.elems, h, hf]
  vn := fun E => by kernel_rfl
  fn := fun E => by kernel_rfl
  vt := fun E => by kernel_rfl
  vf := fun E => by kernel_rfl
  ft := fun E => by kernel_rfl
  ff := fun E => by kernel_rfl
def f6_ac : AC :=
 (.seq (rg [oo 1 (.boxN 9 1 (.t 0)),
  oo 2 (.alloc 2 (.agg [(.int .i64 0), (.int .i64 0), (.int .i64 0), (.int .i64 0), (.int .i64 0), (.int .i64 0), (.int .i64 0), (.nsl 2), (.nsl 2)]))])
 (.seq (.regN 7 [5, 8] [(0, 5), (1, 5), (3, 5), (4, 5), (0, 8), (1, 8), (2, 8), (3, 8), (4, 8), (6, 8)] [(.t 3), (.t 6)] [oo 3 (.faddr 7 7 (.t 1)),
  oo 4 (.load false 1 (.t 3)),
  oo 5 (.callF 5 false [(.sl 2)] 224 [(.t 4)]),
  oo 6 (.faddr 8 8 (.t 1)),
  oo 7 (.load false 1 (.t 6)),
  oo 8 (.callF 8 false [(.sl 2)] 225 [(.t 7)]),
  oo 9 (.faddr 7 7 (.t 1)),
  ⟨none, .storeM 3000 1 (.t 9) (.t 5), none⟩,
  oo 10 (.faddr 8 8 (.t 1)),
  ⟨none, .storeM 3002 1 (.t 10) (.t 8), none⟩])
 (.seq (rg [oo 11 (.loadO (.agg [.int, .int, .int, .int, .int, .int, .int, (.sl 2), (.sl 2)]) (.t 1)),
  ⟨none, .storeM 3001 9 (.t 2) (.t 11), none⟩])
 .ret)))
structure G_f6 (E : Env) : Prop where
  is : Is E 100222 1 f6_ac [(2, some (true, 9))]
  c_f75 : IsClone E 224 2 16
  c_f76 : IsClone E 225 2 16
theorem f6_E {E : Env} (h : G_f6 E) (a0 : U) : E 100222 [a0] =
 U.asAgg a0 fun us1 => (match us1 with
 | u2 :: us3 => ((match us3 with
 | u4 :: us5 => ((match us5 with
 | u6 :: us7 => ((match us7 with
 | u8 :: us9 => ((match us9 with
 | u10 :: us11 => ((match us11 with
 | u12 :: us13 => ((match us13 with
 | u14 :: us15 => ((match us15 with
 | u16 :: us17 => ((match us17 with
 | u18 :: us19 => ((match us19 with
 | [] => (if 7 = sizes [u2, u4, u6, u8, u10, u12, u14] then U.asVar false 1 u16 fun e20 => (E 100224 [e20]).bind fun t21 => U.noTup t21 fun x22 => U.asSlK 2 x22 fun us23 => if 8 = sizes [u2, u4, u6, u8, u10, u12, u14, u16] then U.asVar false 1 u18 fun e24 => (E 100225 [e24]).bind fun t25 => U.noTup t25 fun x26 => U.asSlK 2 x26 fun us27 => if 7 = sizes [u2, u4, u6, u8, u10, u12, u14] then if 7 = sizes [u2, u4, u6, u8, u10, u12, u14] then if u16.size = u16.size then if 7 = dsizes [.val u2, .val u4, .val u6, .val u8, .val u10, .val u12, .val u14] then if u16.size = 1 then if 8 = dsizes [.val u2, .val u4, .val u6, .val u8, .val u10, .val u12, .val u14, .own (.sl 2 us23)] then if 8 = dsizes [.val u2, .val u4, .val u6, .val u8, .val u10, .val u12, .val u14, .own (.sl 2 us23)] then if u18.size = u18.size then if 8 = dsizes [.val u2, .val u4, .val u6, .val u8, .val u10, .val u12, .val u14, .own (.sl 2 us23)] then if u18.size = 1 then U.asInt u2 fun n28 => U.asInt u4 fun n29 => U.asInt u6 fun n30 => U.asInt u8 fun n31 => U.asInt u10 fun n32 => U.asInt u12 fun n33 => U.asInt u14 fun n34 => if 7 = dsizes [.val u2, .val u4, .val u6, .val u8, .val u10, .val u12, .val u14] then if 7 = dsizes [.val u2, .val u4, .val u6, .val u8, .val u10, .val u12, .val u14] then if 8 = dsizes [.val u2, .val u4, .val u6, .val u8, .val u10, .val u12, .val u14, .junk 1] then if 8 = dsizes [.val u2, .val u4, .val u6, .val u8, .val u10, .val u12, .val u14, .junk 1] then some (.agg [(.int .i64 n28), (.int .i64 n29), (.int .i64 n30), (.int .i64 n31), (.int .i64 n32), (.int .i64 n33), (.int .i64 n34), (.sl 2 us23), (.sl 2 us27)]) else none else none else none else none else none else none else none else none else none else none else none else none else none else none else none else none)
 | _ => none))
 | [] => none))
 | [] => none))
 | [] => none))
 | [] => none))
 | [] => none))
 | [] => none))
 | [] => none))
 | [] => none))
 | [] => none) := (h.is _ rfl).trans ((Qt rfl).trans (by kernel_rfl))
def f77_ac : AC :=
 (.seq (rg [oo 2 (.mv (.c (.nsl 2)))])
 (.seq (.seq (rg [oo 3 (.mv (.t 0)),
  oo 4 (.eqnil false (.t 3))])
 (.cond (.t 4) (.seq (rg [oo 2 (.mv (.c (.nsl 2)))])
 .ret) .skip))
 (.seq (rg [oo 5 (.bslice 1 5 2 0 (.agg [(.int .i64 0), (.int .i64 0)]) []),
  oo 6 (.mv (.t 0)),
  oo 7 (.append false 7 2 16 (.t 5) (.t 6)),
  oo 2 (.mv (.t 7))])
 .ret)))
theorem Quv (E : Env) (a0 : U) : run E f77_ac [(2, none)] [a0] =
 (U.isNil a0).bind fun q1 => U.asBool (.bool q1)
 (some (.nsl 2))
 ((U.elems 2 a0).bind fun ys2 => if 2 = 2 ∧ 2 = 2 ∧ ((([] : List U)).length + (ys2 : List U).length) * 16 ≤ 140737488355328 then some (.sl 2 (([] : List U) ++ ys2)) else none) := by kernel_rfl
theorem Quu (E : Env) (a0 : U) : exec E f77_ac (start [a0]) (finishF [(2, none)]) =
 (U.isNil a0).bind fun q1 => U.asBool (.bool q1)
 (some (.sl 2 []))
 ((U.elems 2 a0).bind fun ys2 => if 2 = 2 ∧ 2 = 2 ∧ ((([] : List U)).length + (ys2 : List U).length) * 16 ≤ 140737488355328 then if U.flat.flats (([] : List U) ++ ys2) = true then some (.sl 2 (([] : List U) ++ ys2)) else none else none) := by kernel_rfl
theorem Quy : CloneOK f77_ac 2 16 where
  v := fun E u us h => by
    rw [Quv]
    simp [U.isNil, U.elems, h]
  f := fun E u us h hf => by
    rw [Quu]
    simp [U.isNil, U.elems, h, hf]
  vn := fun E => by kernel_rfl
  fn := fun E => by kernel_rfl
  vt := fun E => by kernel_rfl
  vf := fun E => by kernel_rfl
  ft := fun E => by kernel_rfl
  ff := fun E => by kernel_rfl
def f78_ac : AC :=
 (.seq (rg [oo 2 (.mv (.c (.nsl 2)))])
 (.seq (.seq (rg [oo 3 (.mv (.t 0)),
  oo 4 (.eqnil false (.t 3))])
 (.cond (.t 4) (.seq (rg [oo 2 (.mv (.c (.nsl 2)))])
 .ret) .skip))
 (.seq (rg [oo 5 (.bslice 1 5 2 0 (.agg [(.int .i64 0), (.int .i64 0)]) []),
  oo 6 (.mv (.t 0)),
  oo 7 (.append false 7 2 16 (.t 5) (.t 6)),
  oo 2 (.mv (.t 7))])
 .ret)))
theorem Qu0 (E : Env) (a0 : U) : run E f78_ac [(2, none)] [a0] =
 (U.isNil a0).bind fun q1 => U.asBool (.bool q1)
 (some (.nsl 2))
 ((U.elems 2 a0).bind fun ys2 => if 2 = 2 ∧ 2 = 2 ∧ ((([] : List U)).length + (ys2 : List U).length) * 16 ≤ 140737488355328 then some (.sl 2 (([] : List U) ++ ys2)) else none) := by kernel_rfl
theorem Quz (E : Env) (a0 : U) : exec E f78_ac (start [a0]) (finishF [(2, none)]) =
 (U.isNil a0).bind fun q1 => U.asBool (.bool q1)
 (some (.sl 2 []))
 ((U.elems 2 a0).bind fun ys2 => if 2 = 2 ∧ 2 = 2 ∧ ((([] : List U)).length + (ys2 : List U).length) * 16 ≤ 140737488355328 then if U.flat.flats (([] : List U) ++ ys2) = true then some (.sl 2 (([] : List U) ++ ys2)) else none else none) := by kernel_rfl
theorem Qu3 : CloneOK f78_ac 2 16 where
  v := fun E u us h => by
    rw [Qu0]
    simp [U.isNil, U.elems, h]
  f := fun E u us h hf => by
    rw [Quz]
    simp [U.isNil, U.elems, h, hf]
  vn := fun E => by kernel_rfl
  fn := fun E => by kernel_rfl
  vt := fun E => by kernel_rfl
  vf := fun E => by kernel_rfl
  ft := fun E => by kernel_rfl
  ff := fun E => by kernel_rfl
def f0_b0 : AC :=
 (.seq (rg [oo 24 (.bin .lss (.t 23) (.t 22))])
 (.seq (.cond (.t 24) .skip (.exit 0))
 (.seq (.block 1 (.seq (rg [oo 25 (.iaddr 9 (.t 21) (.t 23)),
  oo 26 (.load true 9 (.t 25)),
  oo 5 (.alloc 5 (.agg [(.int .i64 0), (.int .i64 0), (.int .i64 0), (.int .i64 0), (.int .i64 0), (.int .i64 0), (.int .i64 0), (.nsl 2), (.nsl 2)])),
  ⟨none, .store 9 (.t 5) (.t 26), none⟩])
 (.regC 5 [30, 31] [oo 27 (.faddr 2 2 (.t 3)),
  oo 28 (.loadO (.sl 9) (.t 27)),
  oo 29 (.load true 9 (.t 5)),
  oo 30 (.callF 30 false [(.agg [.int, .int, .int, .int, .int, .int, .int, (.sl 2), (.sl 2)])] 222 [(.t 29)]),
  oo 31 (.bslice 2 31 9 1 (.agg [(.int .i64 0), (.int .i64 0), (.int .i64 0), (.int .i64 0), (.int .i64 0), (.int .i64 0), (.int .i64 0), (.nsl 2), (.nsl 2)]) [(0, (.t 30))]),
  oo 32 (.append true 32 9 104 (.t 28) (.t 31)),
  oo 33 (.faddr 2 2 (.t 3)),
  ⟨none, .storeE 1 (.t 33) (.t 32), none⟩])))
 (rg [oo 34 (.bin .add (.t 23) (ci 1)),
  oo 23 (.mv (.t 34))]))))
def f0_r0 : AC :=
 (.seq (rg [oo 35 (.loadO (.agg [.bool, (.agg [(.sl 1)]), (.sl 9), (.sl 2), (.sl 2), .int]) (.t 3)),
  ⟨none, .storeM 3001 6 (.t 2) (.t 35), none⟩])
 .ret)
def f0_ac : AC :=
 (.seq (rg [oo 1 (.box false 1 (.t 0)),
  oo 2 (.alloc 2 (.agg [(.bool false), (.agg [(.nsl 1)]), (.nsl 9), (.nsl 2), (.nsl 2), (.int .i64 0)]))])
 (.seq (.regN 15 [10, 13, 16, 3] [(0, 10), (1, 10), (2, 10), (3, 10), (5, 10), (6, 10), (8, 10), (9, 10), (11, 10), (12, 10), (14, 10), (0, 13), (1, 13), (2, 13), (3, 13), (4, 13), (5, 13), (6, 13), (8, 13), (9, 13), (11, 13), (12, 13), (14, 13), (0, 16), (1, 16), (2, 16), (3, 16), (4, 16), (5, 16), (6, 16), (7, 16), (8, 16), (9, 16), (11, 16), (12, 16), (14, 16), (0, 3), (1, 3), (2, 3), (3, 3), (4, 3), (5, 3), (6, 3), (7, 3), (8, 3), (9, 3), (10, 3), (11, 3), (12, 3), (13, 3)] [(.t 6), (.t 8), (.t 11), (.t 14), (.t 17)] [oo 6 (.faddr 0 0 (.t 1)),
  oo 7 (.load false 1 (.t 6)),
  oo 8 (.faddr 1 1 (.t 1)),
  oo 9 (.load true 1 (.t 8)),
  oo 10 (.callF 10 false [(.agg [(.sl 1)])] 221 [(.t 9)]),
  oo 11 (.faddr 3 3 (.t 1)),
  oo 12 (.load false 1 (.t 11)),
  oo 13 (.callF 13 false [(.sl 2)] 348 [(.t 12)]),
  oo 14 (.faddr 4 4 (.t 1)),
  oo 15 (.load false 1 (.t 14)),
  oo 16 (.callF 16 false [(.sl 2)] 349 [(.t 15)]),
  oo 17 (.faddr 5 5 (.t 1)),
  oo 18 (.load false 1 (.t 17)),
  oo 19 (.build [(.bool false), (.agg [(.nsl 1)]), (.nsl 9), (.nsl 2), (.nsl 2), (.int .i64 0)] [(0, (.t 7)), (1, (.t 10)), (3, (.t 13)), (4, (.t 16)), (5, (.t 18))]),
  oo 3 (.alloc 3 (.agg [(.bool false), (.agg [(.nsl 1)]), (.nsl 9), (.nsl 2), (.nsl 2), (.int .i64 0)])),
  ⟨none, .storeM 3000 6 (.t 3) (.t 19), none⟩])
 (.seq (.seq (rg [oo 20 (.faddr 2 2 (.t 1)),
  oo 21 (.load false 1 (.t 20)),
  oo 22 (.len false (.t 21)),
  oo 23 (.mv (ci 0))])
 (.block 0 (.loop ⟨[2, 3, 21, 22, 23], [], [(2, false), (3, false)]⟩ f0_b0)))
 f0_r0)))
noncomputable def f0_l0a (E : Env) (x21 : U) (x22 : U) (x23 : U) (b2_0 : U) (b2_1 : U) (b3_0 : U) (b3_1 : List U) (b3_2 : List U) (b3_3 : List U) (b3_4 : U) : Option U := loopK (roundOf E ⟨[2, 3, 21, 22, 23], [], [(2, false), (3, false)]⟩ f0_b0 (blockK 0 (seqK (fun s => exec E f0_r0 s (finishF [(2, some (true, 6))])) (finishF [(2, some (true, 6))])))) ([.ptr 2 [], .ptr 3 [], .val x21, .val x22, .val x23], [.box (.val (.agg [b2_0, (.agg [(.nsl 1)]), (.nsl 9), (.nsl 2), (.nsl 2), b2_1])), .box (.agg [.val b3_0, .agg [.own (.sl 1 b3_1)], .val (.nsl 9), .own (.sl 2 b3_2), .own (.sl 2 b3_3), .val b3_4])])
noncomputable def f0_l0b (E : Env) (x21 : U) (x22 : U) (x23 : U) (b2_0 : U) (b2_1 : U) (b3_0 : U) (b3_1 : List U) (b3_2 : List U) (b3_3 : List U) (b3_4 : List U) (b3_5 : U) : Option U := loopK (roundOf E ⟨[2, 3, 21, 22, 23], [], [(2, false), (3, false)]⟩ f0_b0 (blockK 0 (seqK (fun s => exec E f0_r0 s (finishF [(2, some (true, 6))])) (finishF [(2, some (true, 6))])))) ([.ptr 2 [], .ptr 3 [], .val x21, .val x22, .val x23], [.box (.val (.agg [b2_0, (.agg [(.nsl 1)]), (.nsl 9), (.nsl 2), (.nsl 2), b2_1])), .box (.agg [.val b3_0, .agg [.own (.sl 1 b3_1)], .own (.sl 9 b3_2), .own (.sl 2 b3_3), .own (.sl 2 b3_4), .val b3_5])])
theorem Qq0 (E : Env) (x21 : U) (x22 : U) (x23 : U) (b2_0 : U) (b2_1 : U) (b3_0 : U) (b3_1 : List U) (b3_2 : List U) (b3_3 : List U) (b3_4 : U) : f0_l0a E x21 x22 x23 b2_0 b2_1 b3_0 b3_1 b3_2 b3_3 b3_4 =
 (U.bin .lss x23 x22).bind fun t35 => U.asBool t35
 (U.asInt x23 fun n36 => U.elemAt 9 x21 n36 fun e37 => U.asVar true 9 e37 fun e38 => if storable (.val e38) = true ∧ e38.size = 9 then if 2 = dsizes [.val b3_0, .agg [.own (.sl 1 b3_1)]] then U.asVar true 9 e38 fun e39 => (E 100222 [e39]).bind fun t40 => U.noTup t40 fun x41 => U.asAgg x41 fun us42 => (match us42 with
 | u43 :: us44 => (U.asInt u43 fun n45 => (match us44 with
 | u46 :: us47 => (U.asInt u46 fun n48 => (match us47 with
 | u49 :: us50 => (U.asInt u49 fun n51 => (match us50 with
 | u52 :: us53 => (U.asInt u52 fun n54 => (match us53 with
 | u55 :: us56 => (U.asInt u55 fun n57 => (match us56 with
 | u58 :: us59 => (U.asInt u58 fun n60 => (match us59 with
 | u61 :: us62 => (U.asInt u61 fun n63 => (match us62 with
 | u64 :: us65 => (U.asSlK 2 u64 fun us66 => (match us65 with
 | u67 :: us68 => (U.asSlK 2 u67 fun us69 => (match us68 with
 | [] => (if 9 = 9 ∧ ([(.agg [(.int .i64 n45), (.int .i64 n48), (.int .i64 n51), (.int .i64 n54), (.int .i64 n57), (.int .i64 n60), (.int .i64 n63), (.sl 2 us66), (.sl 2 us69)])] : List U).length * 104 ≤ 140737488355328 then if 2 = dsizes [.val b3_0, .agg [.own (.sl 1 b3_1)]] then (U.bin .add x23 (.int .i64 1)).bind fun t70 => f0_l0b E x21 x22 t70 b2_0 b2_1 b3_0 b3_1 [(.agg [(.int .i64 n45), (.int .i64 n48), (.int .i64 n51), (.int .i64 n54), (.int .i64 n57), (.int .i64 n60), (.int .i64 n63), (.sl 2 us66), (.sl 2 us69)])] b3_2 b3_3 b3_4 else none else none)
 | _ => none))
 | [] => none))
 | [] => none))
 | [] => none))
 | [] => none))
 | [] => none))
 | [] => none))
 | [] => none))
 | [] => none))
 | [] => none) else none else none)
 (U.asB b3_0 fun b71 => U.asInt b3_4 fun n72 => if ((.agg [b2_0, (.agg [(.nsl 1)]), (.nsl 9), (.nsl 2), (.nsl 2), b2_1]) : U).size = ((.agg [b2_0, (.agg [(.nsl 1)]), (.nsl 9), (.nsl 2), (.nsl 2), b2_1]) : U).size then if 1 = dsizes [.val b3_0] then if 1 = dsizes [.val b3_0] then if 3 = dsizes [.val b3_0, .agg [.junk 1], .val (.nsl 9)] then if 3 = dsizes [.val b3_0, .agg [.junk 1], .val (.nsl 9)] then if 4 = dsizes [.val b3_0, .agg [.junk 1], .val (.nsl 9), .junk 1] then if 4 = dsizes [.val b3_0, .agg [.junk 1], .val (.nsl 9), .junk 1] then if ((.agg [b2_0, (.agg [(.nsl 1)]), (.nsl 9), (.nsl 2), (.nsl 2), b2_1]) : U).size = 6 then some (.agg [(.bool b71), (.agg [(.sl 1 b3_1)]), (.sl 9 []), (.sl 2 b3_2), (.sl 2 b3_3), (.int .i64 n72)]) else none else none else none else none else none else none else none else none) := (Qf E _ _ _ _).trans (by kernel_rfl)
theorem Qi7 (E : Env) (x21 : U) (x22 : U) (x23 : U) (b2_0 : U) (b2_1 : U) (b3_0 : U) (b3_1 : List U) (b3_2 : List U) (b3_3 : List U) (b3_4 : List U) (b3_5 : U) : f0_l0b E x21 x22 x23 b2_0 b2_1 b3_0 b3_1 b3_2 b3_3 b3_4 b3_5 =
 (U.bin .lss x23 x22).bind fun t73 => U.asBool t73
 (U.asInt x23 fun n74 => U.elemAt 9 x21 n74 fun e75 => U.asVar true 9 e75 fun e76 => if storable (.val e76) = true ∧ e76.size = 9 then if 2 = dsizes [.val b3_0, .agg [.own (.sl 1 b3_1)]] then U.asVar true 9 e76 fun e77 => (E 100222 [e77]).bind fun t78 => U.noTup t78 fun x79 => U.asAgg x79 fun us80 => (match us80 with
 | u81 :: us82 => (U.asInt u81 fun n83 => (match us82 with
 | u84 :: us85 => (U.asInt u84 fun n86 => (match us85 with
 | u87 :: us88 => (U.asInt u87 fun n89 => (match us88 with
 | u90 :: us91 => (U.asInt u90 fun n92 => (match us91 with
 | u93 :: us94 => (U.asInt u93 fun n95 => (match us94 with
 | u96 :: us97 => (U.asInt u96 fun n98 => (match us97 with
 | u99 :: us100 => (U.asInt u99 fun n101 => (match us100 with
 | u102 :: us103 => (U.asSlK 2 u102 fun us104 => (match us103 with
 | u105 :: us106 => (U.asSlK 2 u105 fun us107 => (match us106 with
 | [] => (if 2 = dsizes [.val b3_0, .agg [.own (.sl 1 b3_1)]] then if 2 = dsizes [.val b3_0, .agg [.own (.sl 1 b3_1)]] then if ((b3_2).length + ([(.agg [(.int .i64 n83), (.int .i64 n86), (.int .i64 n89), (.int .i64 n92), (.int .i64 n95), (.int .i64 n98), (.int .i64 n101), (.sl 2 us104), (.sl 2 us107)])] : List U).length) * 104 ≤ 140737488355328 then if 2 = dsizes [.val b3_0, .agg [.own (.sl 1 b3_1)]] then (U.bin .add x23 (.int .i64 1)).bind fun t108 => f0_l0b E x21 x22 t108 b2_0 b2_1 b3_0 b3_1 (b3_2 ++ ([(.agg [(.int .i64 n83), (.int .i64 n86), (.int .i64 n89), (.int .i64 n92), (.int .i64 n95), (.int .i64 n98), (.int .i64 n101), (.sl 2 us104), (.sl 2 us107)])] : List U)) b3_3 b3_4 b3_5 else none else none else none else none)
 | _ => none))
 | [] => none))
 | [] => none))
 | [] => none))
 | [] => none))
 | [] => none))
 | [] => none))
 | [] => none))
 | [] => none))
 | [] => none) else none else none)
 (U.asB b3_0 fun b109 => U.asInt b3_5 fun n110 => if ((.agg [b2_0, (.agg [(.nsl 1)]), (.nsl 9), (.nsl 2), (.nsl 2), b2_1]) : U).size = ((.agg [b2_0, (.agg [(.nsl 1)]), (.nsl 9), (.nsl 2), (.nsl 2), b2_1]) : U).size then if 1 = dsizes [.val b3_0] then if 1 = dsizes [.val b3_0] then if 2 = dsizes [.val b3_0, .agg [.junk 1]] then if 2 = dsizes [.val b3_0, .agg [.junk 1]] then if 3 = dsizes [.val b3_0, .agg [.junk 1], .junk 1] then if 3 = dsizes [.val b3_0, .agg [.junk 1], .junk 1] then if 4 = dsizes [.val b3_0, .agg [.junk 1], .junk 1, .junk 1] then if 4 = dsizes [.val b3_0, .agg [.junk 1], .junk 1, .junk 1] then if ((.agg [b2_0, (.agg [(.nsl 1)]), (.nsl 9), (.nsl 2), (.nsl 2), b2_1]) : U).size = 6 then some (.agg [(.bool b109), (.agg [(.sl 1 b3_1)]), (.sl 9 b3_2), (.sl 2 b3_3), (.sl 2 b3_4), (.int .i64 n110)]) else none else none else none else none else none else none else none else none else none else none) := (Qf E _ _ _ _).trans (by kernel_rfl)
structure G_f0 (E : Env) : Prop where
  is : Is E 100347 1 f0_ac [(2, some (true, 6))]
  c_f4 : G_f4 E
  c_f6 : G_f6 E
  c_f77 : IsClone E 348 2 16
  c_f78 : IsClone E 349 2 16
theorem f0_E {E : Env} (h : G_f0 E) (a0 : U) : E 100347 [a0] =
 U.noTup a0 fun x1 => U.asAgg x1 fun us2 => if 0 = sizes (us2.take 0) then (us2[0]?).bind fun e3 => U.asVar false 1 e3 fun e4 => U.asAgg x1 fun us5 => if 1 = sizes (us5.take 1) then (us5[1]?).bind fun e6 => U.asVar true 1 e6 fun e7 => (E 100221 [e7]).bind fun t8 => U.noTup t8 fun x9 => U.asAgg x9 fun us10 => (match us10 with
 | u11 :: us12 => (U.asSlK 1 u11 fun us13 => (match us12 with
 | [] => (U.asAgg x1 fun us14 => if 3 = sizes (us14.take 3) then (us14[3]?).bind fun e15 => U.asVar false 1 e15 fun e16 => (E 100348 [e16]).bind fun t17 => U.noTup t17 fun x18 => U.asSlK 2 x18 fun us19 => U.asAgg x1 fun us20 => if 4 = sizes (us20.take 4) then (us20[4]?).bind fun e21 => U.asVar false 1 e21 fun e22 => (E 100349 [e22]).bind fun t23 => U.noTup t23 fun x24 => U.asSlK 2 x24 fun us25 => U.asAgg x1 fun us26 => if 5 = sizes (us26.take 5) then (us26[5]?).bind fun e27 => U.asVar false 1 e27 fun e28 => if partable (.val e4) = true ∧ e4.size = 1 then if partable (.val e28) = true ∧ e28.size = 1 then U.noTup e4 fun x29 => U.noTup e28 fun x30 => if (.agg [.val x29, .agg [.own (.sl 1 us13)], .val (.nsl 9), .own (.sl 2 us19), .own (.sl 2 us25), .val x30] : D).size = 6 then U.asAgg x1 fun us31 => if 2 = sizes (us31.take 2) then (us31[2]?).bind fun e32 => U.asVar false 1 e32 fun e33 => (U.lenOf false e33).bind fun n34 => f0_l0a E e33 (.int .i64 (n34 : Int)) (.int .i64 0) (.bool false) (.int .i64 0) x29 us13 us19 us25 x30 else none else none else none else none else none else none else none)
 | _ => none))
 | [] => none) else none else none := (h.is _ rfl).trans ((Qt rfl).trans (by kernel_rfl))
def f80_b0 : AC :=
 (.seq (rg [oo 9 (.bin .lss (.t 8) (.t 7))])
 (.seq (.cond (.t 9) .skip (.exit 0))
 (.seq (.block 1 (.seq (rg [oo 10 (.mv (.t 8)),
  oo 5 (.mv (.t 10))])
 (.seq (rg [oo 11 (.mv (.t 1)),
  oo 12 (.mv (.t 0)),
  oo 13 (.mv (.t 5)),
  oo 14 (.iaddr 9 (.t 12) (.t 13)),
  oo 15 (.load true 9 (.t 14)),
  oo 16 (.callv false (.t 11) [(.t 15)])])
 (.cond (.t 16) (.seq (rg [oo 17 (.mv (.t 5)),
  oo 4 (.mv (.t 17))])
 .ret) .skip))))
 (rg [oo 18 (.bin .add (.t 8) (ci 1)),
  oo 8 (.mv (.t 18))]))))
def f80_r0 : AC :=
 (.seq (rg [oo 4 (.mv (ci (-1)))])
 .ret)
def f80_ac : AC :=
 (.seq (rg [oo 4 (.mv (ci 0))])
 (.seq (.seq (rg [oo 6 (.mv (.t 0)),
  oo 7 (.len false (.t 6)),
  oo 8 (.mv (ci 0))])
 (.block 0 (.loop ⟨[0, 1, 7, 8], [], []⟩ f80_b0)))
 f80_r0))
noncomputable def f80_l0 (E : Env) (x0 : U) (x1 : U) (x7 : U) (x8 : U) : Option U := loopK (roundOf E ⟨[0, 1, 7, 8], [], []⟩ f80_b0 (blockK 0 (seqK (fun s => exec E f80_r0 s (finish [(4, none)])) (finish [(4, none)])))) ([.val x0, .val x1, .val x7, .val x8], [])
theorem Qls (E : Env) (x0 : U) (x1 : U) (x7 : U) (x8 : U) : f80_l0 E x0 x1 x7 x8 =
 (U.bin .lss x8 x7).bind fun t2 => U.asBool t2
 (U.asInt x8 fun n3 => U.elemAt 9 x0 n3 fun e4 => U.asVar true 9 e4 fun e5 => U.asFn x1 fun r6 caps7 => (E r6 ([e5] ++ caps7)).bind fun t8 => U.asBool t8
 (some x8)
 ((U.bin .add x8 (.int .i64 1)).bind fun t9 => f80_l0 E x0 x1 x7 t9))
 (some (.int .i64 (-1))) := (Qf E _ _ _ _).trans (by kernel_rfl)
structure G_f80 (E : Env) : Prop where
  is : Is E 172 2 f80_ac [(4, none)]
theorem f80_E {E : Env} (h : G_f80 E) (a0 a1 : U) : E 172 [a0, a1] =
 (U.lenOf false a0).bind fun n1 => f80_l0 E a0 a1 (.int .i64 (n1 : Int)) (.int .i64 0) := (h.is _ rfl).trans ((Qe rfl).trans (by kernel_rfl))
def f1_ac : AC :=
 (.seq (rg [oo 1 (.box false 1 (.t 0)),
  oo 2 (.alloc 2 (.agg [(.bool false), (.agg [(.nsl 1)]), (.nsl 9), (.nsl 2), (.nsl 2), (.int .i64 0)]))])
 (.seq (rg [oo 4 (.load true 6 (.t 1)),
  oo 5 (.callF 5 false [(.agg [.bool, (.agg [(.sl 1)]), (.sl 9), (.sl 2), (.sl 2), .int])] 347 [(.t 4)]),
  oo 3 (.alloc 3 (.agg [(.bool false), (.agg [(.nsl 1)]), (.nsl 9), (.nsl 2), (.nsl 2), (.int .i64 0)])),
  ⟨none, .storeM 3000 6 (.t 3) (.t 5), none⟩])
 (.seq (rg [oo 6 (.faddr 2 2 (.t 3)),
  oo 7 (.loadO (.sl 9) (.t 6)),
  oo 8 (.callC 8 9 346 (.t 7) [(.c (.fn 345 []))]),
  oo 9 (.faddr 2 2 (.t 3)),
  ⟨none, .storeM 3001 1 (.t 9) (.t 8), none⟩])
 (.seq (rg [oo 10 (.loadO (.agg [.bool, (.agg [(.sl 1)]), (.sl 9), (.sl 2), (.sl 2), .int]) (.t 3)),
  ⟨none, .storeM 3002 6 (.t 2) (.t 10), none⟩])
 .ret))))
structure G_f1 (E : Env) : Prop where
  is : Is E 342 1 f1_ac [(2, some (true, 6))]
  c_f2 : G_f2 E
  c_f0 : G_f0 E
  c_f79 : IsDel E 346 345 9 1048576 isTx9 isAb9
theorem f1_E {E : Env} (h : G_f1 E) (a0 : U) : E 342 [a0] =
 U.noTup a0 fun x1 => U.asVar true 6 x1 fun e2 => (E 100347 [e2]).bind fun t3 => U.noTup t3 fun x4 => U.asAgg x4 fun us5 => (match us5 with
 | u6 :: us7 => (U.asB u6 fun b8 => (match us7 with
 | u9 :: us10 => (U.asAgg u9 fun us11 => (match us11 with
 | u12 :: us13 => (U.asSlK 1 u12 fun us14 => (match us13 with
 | [] => ((match us10 with
 | u15 :: us16 => (U.asSlK 9 u15 fun us17 => (match us16 with
 | u18 :: us19 => (U.asSlK 2 u18 fun us20 => (match us19 with
 | u21 :: us22 => (U.asSlK 2 u21 fun us23 => (match us22 with
 | u24 :: us25 => (U.asInt u24 fun n26 => (match us25 with
 | [] => ((E 300346 (.agg [.tup [.sl 9 us17]] :: [(.fn 345 [])])).bind fun t27 => U.asSlK 9 t27 fun us28 => some (.agg [(.bool b8), (.agg [(.sl 1 us14)]), (.sl 9 us28), (.sl 2 us20), (.sl 2 us23), (.int .i64 n26)]))
 | _ => none))
 | [] => none))
 | [] => none))
 | [] => none))
 | [] => none))
 | _ => none))
 | [] => none))
 | [] => none))
 | [] => none) := (h.is _ rfl).trans ((Qe rfl).trans (by kernel_rfl))
def f16_ac : AC :=
 (.seq (rg [oo 2 (.box false 2 (.t 0)),
  oo 3 (.box false 3 (.t 1)),
  oo 4 (.mv (.c (.bool false)))])
 (.seq (.seq (rg [oo 5 (.faddr 0 0 (.t 2)),
  oo 6 (.load false 1 (.t 5)),
  oo 7 (.faddr 0 0 (.t 3)),
  oo 8 (.load false 1 (.t 7)),
  oo 9 (.bin .neq (.t 6) (.t 8))])
 (.cond (.t 9) (.seq (rg [oo 4 (.mv (.c (.bool false)))])
 .ret) .skip))
 (.seq (.seq (rg [oo 10 (.faddr 1 1 (.t 2)),
  oo 11 (.load false 1 (.t 10)),
  oo 12 (.faddr 1 1 (.t 3)),
  oo 13 (.load false 1 (.t 12)),
  oo 14 (.bin .neq (.t 11) (.t 13))])
 (.cond (.t 14) (.seq (rg [oo 4 (.mv (.c (.bool false)))])
 .ret) .skip))
 (.seq (.seq (rg [oo 15 (.faddr 2 2 (.t 2)),
  oo 16 (.load false 1 (.t 15)),
  oo 17 (.faddr 2 2 (.t 3)),
  oo 18 (.load false 1 (.t 17)),
  oo 19 (.bin .neq (.t 16) (.t 18))])
 (.cond (.t 19) (.seq (rg [oo 4 (.mv (.c (.bool false)))])
 .ret) .skip))
 (.seq (.seq (rg [oo 20 (.faddr 3 3 (.t 2)),
  oo 21 (.load false 1 (.t 20)),
  oo 22 (.faddr 3 3 (.t 3)),
  oo 23 (.load false 1 (.t 22)),
  oo 24 (.bin .neq (.t 21) (.t 23))])
 (.cond (.t 24) (.seq (rg [oo 4 (.mv (.c (.bool false)))])
 .ret) .skip))
 (.seq (.seq (rg [oo 25 (.faddr 4 4 (.t 2)),
  oo 26 (.load false 1 (.t 25)),
  oo 27 (.faddr 4 4 (.t 3)),
  oo 28 (.load false 1 (.t 27)),
  oo 29 (.bin .neq (.t 26) (.t 28))])
 (.cond (.t 29) (.seq (rg [oo 4 (.mv (.c (.bool false)))])
 .ret) .skip))
 (.seq (rg [oo 4 (.mv (.c (.bool true)))])
 .ret)))))))
structure G_f16 (E : Env) : Prop where
  is : Is E 120 2 f16_ac [(4, none)]
theorem f16_E {E : Env} (h : G_f16 E) (a0 a1 : U) : E 120 [a0, a1] =
 U.noTup a0 fun x1 => U.noTup a1 fun x2 => U.asAgg x1 fun us3 => if 0 = sizes (us3.take 0) then (us3[0]?).bind fun e4 => U.asVar false 1 e4 fun e5 => U.asAgg x2 fun us6 => if 0 = sizes (us6.take 0) then (us6[0]?).bind fun e7 => U.asVar false 1 e7 fun e8 => (U.bin .neq e5 e8).bind fun t9 => U.asBool t9
 (some (.bool false))
 (U.asAgg x1 fun us10 => if 1 = sizes (us10.take 1) then (us10[1]?).bind fun e11 => U.asVar false 1 e11 fun e12 => U.asAgg x2 fun us13 => if 1 = sizes (us13.take 1) then (us13[1]?).bind fun e14 => U.asVar false 1 e14 fun e15 => (U.bin .neq e12 e15).bind fun t16 => U.asBool t16
 (some (.bool false))
 (U.asAgg x1 fun us17 => if 2 = sizes (us17.take 2) then (us17[2]?).bind fun e18 => U.asVar false 1 e18 fun e19 => U.asAgg x2 fun us20 => if 2 = sizes (us20.take 2) then (us20[2]?).bind fun e21 => U.asVar false 1 e21 fun e22 => (U.bin .neq e19 e22).bind fun t23 => U.asBool t23
 (some (.bool false))
 (U.asAgg x1 fun us24 => if 3 = sizes (us24.take 3) then (us24[3]?).bind fun e25 => U.asVar false 1 e25 fun e26 => U.asAgg x2 fun us27 => if 3 = sizes (us27.take 3) then (us27[3]?).bind fun e28 => U.asVar false 1 e28 fun e29 => (U.bin .neq e26 e29).bind fun t30 => U.asBool t30
 (some (.bool false))
 (U.asAgg x1 fun us31 => if 4 = sizes (us31.take 4) then (us31[4]?).bind fun e32 => U.asVar false 1 e32 fun e33 => U.asAgg x2 fun us34 => if 4 = sizes (us34.take 4) then (us34[4]?).bind fun e35 => U.asVar false 1 e35 fun e36 => (U.bin .neq e33 e36).bind fun t37 => U.asBool t37
 (some (.bool false))
 (some (.bool true)) else none else none) else none else none) else none else none) else none else none) else none else none := (h.is _ rfl).trans ((Qe rfl).trans (by kernel_rfl))
def f17_b0 : AC :=
 (.seq (.seq (rg [oo 11 (.mv (.t 5)),
  oo 12 (.mv (.t 0)),
  oo 13 (.len false (.t 12)),
  oo 14 (.bin .lss (.t 11) (.t 13))])
 (.cond (.t 14) .skip (.exit 0)))
 (.seq (.block 1 (.seq (.region 10 [oo 17 (.mv (.t 0)),
  oo 18 (.mv (.t 5)),
  oo 19 (.iaddr 5 (.t 17) (.t 18)),
  oo 20 (.load true 5 (.t 19)),
  oo 21 (.mv (.t 1)),
  oo 22 (.mv (.t 5)),
  oo 23 (.iaddr 5 (.t 21) (.t 22)),
  oo 24 (.load true 5 (.t 23)),
  oo 25 (.call false 120 [(.t 20), (.t 24)]),
  oo 26 (.un .not (.t 25))])
 (.cond (.t 26) (.seq (rg [oo 4 (.mv (.c (.bool false)))])
 .ret) .skip)))
 (rg [oo 15 (.mv (.t 5)),
  oo 16 (.bin .add (.t 15) (ci 1)),
  oo 5 (.mv (.t 16))])))
def f17_r0 : AC :=
 (.seq (rg [oo 4 (.mv (.c (.bool true)))])
 .ret)
def f17_ac : AC :=
 (.seq (rg [oo 4 (.mv (.c (.bool false)))])
 (.seq (.seq (rg [oo 6 (.mv (.t 0)),
  oo 7 (.len false (.t 6)),
  oo 8 (.mv (.t 1)),
  oo 9 (.len false (.t 8)),
  oo 10 (.bin .neq (.t 7) (.t 9))])
 (.cond (.t 10) (.seq (rg [oo 4 (.mv (.c (.bool false)))])
 .ret) .skip))
 (.seq (.seq (rg [oo 5 (.mv (ci 0))])
 (.block 0 (.loop ⟨[0, 1, 5], [], []⟩ f17_b0)))
 f17_r0)))
noncomputable def f17_l0 (E : Env) (x0 : U) (x1 : U) (x5 : U) : Option U := loopK (roundOf E ⟨[0, 1, 5], [], []⟩ f17_b0 (blockK 0 (seqK (fun s => exec E f17_r0 s (finish [(4, none)])) (finish [(4, none)])))) ([.val x0, .val x1, .val x5], [])
theorem Qjj (E : Env) (x0 : U) (x1 : U) (x5 : U) : f17_l0 E x0 x1 x5 =
 (U.lenOf false x0).bind fun n4 => (U.bin .lss x5 (.int .i64 (n4 : Int))).bind fun t5 => U.asBool t5
 (U.asInt x5 fun n6 => U.elemAt 5 x0 n6 fun e7 => U.asVar true 5 e7 fun e8 => U.asInt x5 fun n9 => U.elemAt 5 x1 n9 fun e10 => U.asVar true 5 e10 fun e11 => (E 120 [e8, e11]).bind fun t12 => (U.un .not t12).bind fun t13 => U.asBool t13
 (some (.bool false))
 ((U.bin .add x5 (.int .i64 1)).bind fun t14 => f17_l0 E x0 x1 t14))
 (some (.bool true)) := (Qf E _ _ _ _).trans (by kernel_rfl)
structure G_f17 (E : Env) : Prop where
  is : Is E 119 2 f17_ac [(4, none)]
  c_f16 : G_f16 E
theorem f17_E {E : Env} (h : G_f17 E) (a0 a1 : U) : E 119 [a0, a1] =
 (U.lenOf false a0).bind fun n1 => (U.lenOf false a1).bind fun n2 => (U.bin .neq (.int .i64 (n1 : Int)) (.int .i64 (n2 : Int))).bind fun t3 => U.asBool t3
 (some (.bool false))
 (f17_l0 E a0 a1 (.int .i64 0)) := (h.is _ rfl).trans ((Qe rfl).trans (by kernel_rfl))
def f18_b0 : AC :=
 (.seq (.seq (rg [oo 11 (.mv (.t 5)),
  oo 12 (.mv (.t 0)),
  oo 13 (.len false (.t 12)),
  oo 14 (.bin .lss (.t 11) (.t 13))])
 (.cond (.t 14) .skip (.exit 0)))
 (.seq (.block 1 (.seq (.region 10 [oo 17 (.mv (.t 0)),
  oo 18 (.mv (.t 5)),
  oo 19 (.iaddr 1 (.t 17) (.t 18)),
  oo 20 (.load false 1 (.t 19)),
  oo 21 (.mv (.t 1)),
  oo 22 (.mv (.t 5)),
  oo 23 (.iaddr 1 (.t 21) (.t 22)),
  oo 24 (.load false 1 (.t 23)),
  oo 25 (.call false 119 [(.t 20), (.t 24)]),
  oo 26 (.un .not (.t 25))])
 (.cond (.t 26) (.seq (rg [oo 4 (.mv (.c (.bool false)))])
 .ret) .skip)))
 (rg [oo 15 (.mv (.t 5)),
  oo 16 (.bin .add (.t 15) (ci 1)),
  oo 5 (.mv (.t 16))])))
def f18_r0 : AC :=
 (.seq (rg [oo 4 (.mv (.c (.bool true)))])
 .ret)
def f18_ac : AC :=
 (.seq (rg [oo 4 (.mv (.c (.bool false)))])
 (.seq (.seq (rg [oo 6 (.mv (.t 0)),
  oo 7 (.len false (.t 6)),
  oo 8 (.mv (.t 1)),
  oo 9 (.len false (.t 8)),
  oo 10 (.bin .neq (.t 7) (.t 9))])
 (.cond (.t 10) (.seq (rg [oo 4 (.mv (.c (.bool false)))])
 .ret) .skip))
 (.seq (.seq (rg [oo 5 (.mv (ci 0))])
 (.block 0 (.loop ⟨[0, 1, 5], [], []⟩ f18_b0)))
 f18_r0)))
noncomputable def f18_l0 (E : Env) (x0 : U) (x1 : U) (x5 : U) : Option U := loopK (roundOf E ⟨[0, 1, 5], [], []⟩ f18_b0 (blockK 0 (seqK (fun s => exec E f18_r0 s (finish [(4, none)])) (finish [(4, none)])))) ([.val x0, .val x1, .val x5], [])
theorem Qjl (E : Env) (x0 : U) (x1 : U) (x5 : U) : f18_l0 E x0 x1 x5 =
 (U.lenOf false x0).bind fun n4 => (U.bin .lss x5 (.int .i64 (n4 : Int))).bind fun t5 => U.asBool t5
 (U.asInt x5 fun n6 => U.elemAt 1 x0 n6 fun e7 => U.asVar false 1 e7 fun e8 => U.asInt x5 fun n9 => U.elemAt 1 x1 n9 fun e10 => U.asVar false 1 e10 fun e11 => (E 119 [e8, e11]).bind fun t12 => (U.un .not t12).bind fun t13 => U.asBool t13
 (some (.bool false))
 ((U.bin .add x5 (.int .i64 1)).bind fun t14 => f18_l0 E x0 x1 t14))
 (some (.bool true)) := (Qf E _ _ _ _).trans (by kernel_rfl)
structure G_f18 (E : Env) : Prop where
  is : Is E 118 2 f18_ac [(4, none)]
  c_f17 : G_f17 E
theorem f18_E {E : Env} (h : G_f18 E) (a0 a1 : U) : E 118 [a0, a1] =
 (U.lenOf false a0).bind fun n1 => (U.lenOf false a1).bind fun n2 => (U.bin .neq (.int .i64 (n1 : Int)) (.int .i64 (n2 : Int))).bind fun t3 => U.asBool t3
 (some (.bool false))
 (f18_l0 E a0 a1 (.int .i64 0)) := (h.is _ rfl).trans ((Qe rfl).trans (by kernel_rfl))
def f13_ac : AC :=
 (.seq (rg [oo 2 (.box false 2 (.t 0)),
  oo 3 (.box false 3 (.t 1)),
  oo 4 (.mv (.c (.bool false)))])
 (.seq (.seq (rg [oo 5 (.faddr 0 0 (.t 2)),
  oo 6 (.load false 1 (.t 5)),
  oo 7 (.faddr 0 0 (.t 3)),
  oo 8 (.load false 1 (.t 7)),
  oo 9 (.call false 118 [(.t 6), (.t 8)]),
  oo 10 (.un .not (.t 9))])
 (.cond (.t 10) (.seq (rg [oo 4 (.mv (.c (.bool false)))])
 .ret) .skip))
 (.seq (rg [oo 4 (.mv (.c (.bool true)))])
 .ret)))
structure G_f13 (E : Env) : Prop where
  is : Is E 97 2 f13_ac [(4, none)]
  c_f18 : G_f18 E
theorem f13_E {E : Env} (h : G_f13 E) (a0 a1 : U) : E 97 [a0, a1] =
 U.noTup a0 fun x1 => U.noTup a1 fun x2 => U.asAgg x1 fun us3 => if 0 = sizes (us3.take 0) then (us3[0]?).bind fun e4 => U.asVar false 1 e4 fun e5 => U.asAgg x2 fun us6 => if 0 = sizes (us6.take 0) then (us6[0]?).bind fun e7 => U.asVar false 1 e7 fun e8 => (E 118 [e5, e8]).bind fun t9 => (U.un .not t9).bind fun t10 => U.asBool t10
 (some (.bool false))
 (some (.bool true)) else none else none := (h.is _ rfl).trans ((Qe rfl).trans (by kernel_rfl))
def f11_ac : AC :=
 (.seq (rg [oo 2 (.box false 2 (.t 0)),
  oo 3 (.box false 3 (.t 1)),
  oo 4 (.mv (.c (.bool false)))])
 (.seq (.seq (rg [oo 5 (.faddr 0 0 (.t 2)),
  oo 6 (.load false 1 (.t 5)),
  oo 7 (.faddr 0 0 (.t 3)),
  oo 8 (.load false 1 (.t 7)),
  oo 9 (.bin .neq (.t 6) (.t 8))])
 (.cond (.t 9) (.seq (rg [oo 4 (.mv (.c (.bool false)))])
 .ret) .skip))
 (.seq (.seq (rg [oo 10 (.faddr 1 1 (.t 2)),
  oo 11 (.load false 1 (.t 10)),
  oo 12 (.faddr 1 1 (.t 3)),
  oo 13 (.load false 1 (.t 12)),
  oo 14 (.bin .neq (.t 11) (.t 13))])
 (.cond (.t 14) (.seq (rg [oo 4 (.mv (.c (.bool false)))])
 .ret) .skip))
 (.seq (rg [oo 4 (.mv (.c (.bool true)))])
 .ret))))
structure G_f11 (E : Env) : Prop where
  is : Is E 35 2 f11_ac [(4, none)]
theorem f11_E {E : Env} (h : G_f11 E) (a0 a1 : U) : E 35 [a0, a1] =
 U.noTup a0 fun x1 => U.noTup a1 fun x2 => U.asAgg x1 fun us3 => if 0 = sizes (us3.take 0) then (us3[0]?).bind fun e4 => U.asVar false 1 e4 fun e5 => U.asAgg x2 fun us6 => if 0 = sizes (us6.take 0) then (us6[0]?).bind fun e7 => U.asVar false 1 e7 fun e8 => (U.bin .neq e5 e8).bind fun t9 => U.asBool t9
 (some (.bool false))
 (U.asAgg x1 fun us10 => if 1 = sizes (us10.take 1) then (us10[1]?).bind fun e11 => U.asVar false 1 e11 fun e12 => U.asAgg x2 fun us13 => if 1 = sizes (us13.take 1) then (us13[1]?).bind fun e14 => U.asVar false 1 e14 fun e15 => (U.bin .neq e12 e15).bind fun t16 => U.asBool t16
 (some (.bool false))
 (some (.bool true)) else none else none) else none else none := (h.is _ rfl).trans ((Qe rfl).trans (by kernel_rfl))
def f12_b0 : AC :=
 (.seq (.seq (rg [oo 11 (.mv (.t 5)),
  oo 12 (.mv (.t 0)),
  oo 13 (.len false (.t 12)),
  oo 14 (.bin .lss (.t 11) (.t 13))])
 (.cond (.t 14) .skip (.exit 0)))
 (.seq (.block 1 (.seq (.region 10 [oo 17 (.mv (.t 0)),
  oo 18 (.mv (.t 5)),
  oo 19 (.iaddr 2 (.t 17) (.t 18)),
  oo 20 (.load true 2 (.t 19)),
  oo 21 (.mv (.t 1)),
  oo 22 (.mv (.t 5)),
  oo 23 (.iaddr 2 (.t 21) (.t 22)),
  oo 24 (.load true 2 (.t 23)),
  oo 25 (.call false 35 [(.t 20), (.t 24)]),
  oo 26 (.un .not (.t 25))])
 (.cond (.t 26) (.seq (rg [oo 4 (.mv (.c (.bool false)))])
 .ret) .skip)))
 (rg [oo 15 (.mv (.t 5)),
  oo 16 (.bin .add (.t 15) (ci 1)),
  oo 5 (.mv (.t 16))])))
def f12_r0 : AC :=
 (.seq (rg [oo 4 (.mv (.c (.bool true)))])
 .ret)
def f12_ac : AC :=
 (.seq (rg [oo 4 (.mv (.c (.bool false)))])
 (.seq (.seq (rg [oo 6 (.mv (.t 0)),
  oo 7 (.len false (.t 6)),
  oo 8 (.mv (.t 1)),
  oo 9 (.len false (.t 8)),
  oo 10 (.bin .neq (.t 7) (.t 9))])
 (.cond (.t 10) (.seq (rg [oo 4 (.mv (.c (.bool false)))])
 .ret) .skip))
 (.seq (.seq (rg [oo 5 (.mv (ci 0))])
 (.block 0 (.loop ⟨[0, 1, 5], [], []⟩ f12_b0)))
 f12_r0)))
noncomputable def f12_l0 (E : Env) (x0 : U) (x1 : U) (x5 : U) : Option U := loopK (roundOf E ⟨[0, 1, 5], [], []⟩ f12_b0 (blockK 0 (seqK (fun s => exec E f12_r0 s (finish [(4, none)])) (finish [(4, none)])))) ([.val x0, .val x1, .val x5], [])
theorem Qjc (E : Env) (x0 : U) (x1 : U) (x5 : U) : f12_l0 E x0 x1 x5 =
 (U.lenOf false x0).bind fun n4 => (U.bin .lss x5 (.int .i64 (n4 : Int))).bind fun t5 => U.asBool t5
 (U.asInt x5 fun n6 => U.elemAt 2 x0 n6 fun e7 => U.asVar true 2 e7 fun e8 => U.asInt x5 fun n9 => U.elemAt 2 x1 n9 fun e10 => U.asVar true 2 e10 fun e11 => (E 35 [e8, e11]).bind fun t12 => (U.un .not t12).bind fun t13 => U.asBool t13
 (some (.bool false))
 ((U.bin .add x5 (.int .i64 1)).bind fun t14 => f12_l0 E x0 x1 t14))
 (some (.bool true)) := (Qf E _ _ _ _).trans (by kernel_rfl)
structure G_f12 (E : Env) : Prop where
  is : Is E 34 2 f12_ac [(4, none)]
  c_f11 : G_f11 E
theorem f12_E {E : Env} (h : G_f12 E) (a0 a1 : U) : E 34 [a0, a1] =
 (U.lenOf false a0).bind fun n1 => (U.lenOf false a1).bind fun n2 => (U.bin .neq (.int .i64 (n1 : Int)) (.int .i64 (n2 : Int))).bind fun t3 => U.asBool t3
 (some (.bool false))
 (f12_l0 E a0 a1 (.int .i64 0)) := (h.is _ rfl).trans ((Qe rfl).trans (by kernel_rfl))
def f21_ac : AC :=
 (.seq (rg [oo 2 (.box false 2 (.t 0)),
  oo 3 (.box false 3 (.t 1)),
  oo 4 (.mv (.c (.bool false)))])
 (.seq (.seq (rg [oo 5 (.faddr 0 0 (.t 2)),
  oo 6 (.load false 1 (.t 5)),
  oo 7 (.faddr 0 0 (.t 3)),
  oo 8 (.load false 1 (.t 7)),
  oo 9 (.bin .neq (.t 6) (.t 8))])
 (.cond (.t 9) (.seq (rg [oo 4 (.mv (.c (.bool false)))])
 .ret) .skip))
 (.seq (.seq (rg [oo 10 (.faddr 1 1 (.t 2)),
  oo 11 (.load false 1 (.t 10)),
  oo 12 (.faddr 1 1 (.t 3)),
  oo 13 (.load false 1 (.t 12)),
  oo 14 (.bin .neq (.t 11) (.t 13))])
 (.cond (.t 14) (.seq (rg [oo 4 (.mv (.c (.bool false)))])
 .ret) .skip))
 (.seq (rg [oo 4 (.mv (.c (.bool true)))])
 .ret))))
structure G_f21 (E : Env) : Prop where
  is : Is E 36 2 f21_ac [(4, none)]
theorem f21_E {E : Env} (h : G_f21 E) (a0 a1 : U) : E 36 [a0, a1] =
 U.noTup a0 fun x1 => U.noTup a1 fun x2 => U.asAgg x1 fun us3 => if 0 = sizes (us3.take 0) then (us3[0]?).bind fun e4 => U.asVar false 1 e4 fun e5 => U.asAgg x2 fun us6 => if 0 = sizes (us6.take 0) then (us6[0]?).bind fun e7 => U.asVar false 1 e7 fun e8 => (U.bin .neq e5 e8).bind fun t9 => U.asBool t9
 (some (.bool false))
 (U.asAgg x1 fun us10 => if 1 = sizes (us10.take 1) then (us10[1]?).bind fun e11 => U.asVar false 1 e11 fun e12 => U.asAgg x2 fun us13 => if 1 = sizes (us13.take 1) then (us13[1]?).bind fun e14 => U.asVar false 1 e14 fun e15 => (U.bin .neq e12 e15).bind fun t16 => U.asBool t16
 (some (.bool false))
 (some (.bool true)) else none else none) else none else none := (h.is _ rfl).trans ((Qe rfl).trans (by kernel_rfl))
def f22_b0 : AC :=
 (.seq (.seq (rg [oo 11 (.mv (.t 5)),
  oo 12 (.mv (.t 0)),
  oo 13 (.len false (.t 12)),
  oo 14 (.bin .lss (.t 11) (.t 13))])
 (.cond (.t 14) .skip (.exit 0)))
 (.seq (.block 1 (.seq (.region 10 [oo 17 (.mv (.t 0)),
  oo 18 (.mv (.t 5)),
  oo 19 (.iaddr 2 (.t 17) (.t 18)),
  oo 20 (.load true 2 (.t 19)),
  oo 21 (.mv (.t 1)),
  oo 22 (.mv (.t 5)),
  oo 23 (.iaddr 2 (.t 21) (.t 22)),
  oo 24 (.load true 2 (.t 23)),
  oo 25 (.call false 36 [(.t 20), (.t 24)]),
  oo 26 (.un .not (.t 25))])
 (.cond (.t 26) (.seq (rg [oo 4 (.mv (.c (.bool false)))])
 .ret) .skip)))
 (rg [oo 15 (.mv (.t 5)),
  oo 16 (.bin .add (.t 15) (ci 1)),
  oo 5 (.mv (.t 16))])))
def f22_r0 : AC :=
 (.seq (rg [oo 4 (.mv (.c (.bool true)))])
 .ret)
def f22_ac : AC :=
 (.seq (rg [oo 4 (.mv (.c (.bool false)))])
 (.seq (.seq (rg [oo 6 (.mv (.t 0)),
  oo 7 (.len false (.t 6)),
  oo 8 (.mv (.t 1)),
  oo 9 (.len false (.t 8)),
  oo 10 (.bin .neq (.t 7) (.t 9))])
 (.cond (.t 10) (.seq (rg [oo 4 (.mv (.c (.bool false)))])
 .ret) .skip))
 (.seq (.seq (rg [oo 5 (.mv (ci 0))])
 (.block 0 (.loop ⟨[0, 1, 5], [], []⟩ f22_b0)))
 f22_r0)))
noncomputable def f22_l0 (E : Env) (x0 : U) (x1 : U) (x5 : U) : Option U := loopK (roundOf E ⟨[0, 1, 5], [], []⟩ f22_b0 (blockK 0 (seqK (fun s => exec E f22_r0 s (finish [(4, none)])) (finish [(4, none)])))) ([.val x0, .val x1, .val x5], [])
theorem Qjr (E : Env) (x0 : U) (x1 : U) (x5 : U) : f22_l0 E x0 x1 x5 =
 (U.lenOf false x0).bind fun n4 => (U.bin .lss x5 (.int .i64 (n4 : Int))).bind fun t5 => U.asBool t5
 (U.asInt x5 fun n6 => U.elemAt 2 x0 n6 fun e7 => U.asVar true 2 e7 fun e8 => U.asInt x5 fun n9 => U.elemAt 2 x1 n9 fun e10 => U.asVar true 2 e10 fun e11 => (E 36 [e8, e11]).bind fun t12 => (U.un .not t12).bind fun t13 => U.asBool t13
 (some (.bool false))
 ((U.bin .add x5 (.int .i64 1)).bind fun t14 => f22_l0 E x0 x1 t14))
 (some (.bool true)) := (Qf E _ _ _ _).trans (by kernel_rfl)
structure G_f22 (E : Env) : Prop where
  is : Is E 33 2 f22_ac [(4, none)]
  c_f21 : G_f21 E
theorem f22_E {E : Env} (h : G_f22 E) (a0 a1 : U) : E 33 [a0, a1] =
 (U.lenOf false a0).bind fun n1 => (U.lenOf false a1).bind fun n2 => (U.bin .neq (.int .i64 (n1 : Int)) (.int .i64 (n2 : Int))).bind fun t3 => U.asBool t3
 (some (.bool false))
 (f22_l0 E a0 a1 (.int .i64 0)) := (h.is _ rfl).trans ((Qe rfl).trans (by kernel_rfl))
def f14_ac : AC :=
 (.seq (rg [oo 2 (.box false 2 (.t 0)),
  oo 3 (.box false 3 (.t 1)),
  oo 4 (.mv (.c (.bool false)))])
 (.seq (.seq (rg [oo 5 (.faddr 0 0 (.t 2)),
  oo 6 (.load false 1 (.t 5)),
  oo 7 (.faddr 0 0 (.t 3)),
  oo 8 (.load false 1 (.t 7)),
  oo 9 (.bin .neq (.t 6) (.t 8))])
 (.cond (.t 9) (.seq (rg [oo 4 (.mv (.c (.bool false)))])
 .ret) .skip))
 (.seq (.seq (rg [oo 10 (.faddr 1 1 (.t 2)),
  oo 11 (.load false 1 (.t 10)),
  oo 12 (.faddr 1 1 (.t 3)),
  oo 13 (.load false 1 (.t 12)),
  oo 14 (.bin .neq (.t 11) (.t 13))])
 (.cond (.t 14) (.seq (rg [oo 4 (.mv (.c (.bool false)))])
 .ret) .skip))
 (.seq (.seq (rg [oo 15 (.faddr 2 2 (.t 2)),
  oo 16 (.load false 1 (.t 15)),
  oo 17 (.faddr 2 2 (.t 3)),
  oo 18 (.load false 1 (.t 17)),
  oo 19 (.bin .neq (.t 16) (.t 18))])
 (.cond (.t 19) (.seq (rg [oo 4 (.mv (.c (.bool false)))])
 .ret) .skip))
 (.seq (.seq (rg [oo 20 (.faddr 3 3 (.t 2)),
  oo 21 (.load false 1 (.t 20)),
  oo 22 (.faddr 3 3 (.t 3)),
  oo 23 (.load false 1 (.t 22)),
  oo 24 (.bin .neq (.t 21) (.t 23))])
 (.cond (.t 24) (.seq (rg [oo 4 (.mv (.c (.bool false)))])
 .ret) .skip))
 (.seq (.seq (rg [oo 25 (.faddr 4 4 (.t 2)),
  oo 26 (.load false 1 (.t 25)),
  oo 27 (.faddr 4 4 (.t 3)),
  oo 28 (.load false 1 (.t 27)),
  oo 29 (.bin .neq (.t 26) (.t 28))])
 (.cond (.t 29) (.seq (rg [oo 4 (.mv (.c (.bool false)))])
 .ret) .skip))
 (.seq (.seq (rg [oo 30 (.faddr 5 5 (.t 2)),
  oo 31 (.load false 1 (.t 30)),
  oo 32 (.faddr 5 5 (.t 3)),
  oo 33 (.load false 1 (.t 32)),
  oo 34 (.bin .neq (.t 31) (.t 33))])
 (.cond (.t 34) (.seq (rg [oo 4 (.mv (.c (.bool false)))])
 .ret) .skip))
 (.seq (.seq (rg [oo 35 (.faddr 6 6 (.t 2)),
  oo 36 (.load false 1 (.t 35)),
  oo 37 (.faddr 6 6 (.t 3)),
  oo 38 (.load false 1 (.t 37)),
  oo 39 (.bin .neq (.t 36) (.t 38))])
 (.cond (.t 39) (.seq (rg [oo 4 (.mv (.c (.bool false)))])
 .ret) .skip))
 (.seq (.seq (rg [oo 40 (.faddr 7 7 (.t 2)),
  oo 41 (.load false 1 (.t 40)),
  oo 42 (.faddr 7 7 (.t 3)),
  oo 43 (.load false 1 (.t 42)),
  oo 44 (.call false 34 [(.t 41), (.t 43)]),
  oo 45 (.un .not (.t 44))])
 (.cond (.t 45) (.seq (rg [oo 4 (.mv (.c (.bool false)))])
 .ret) .skip))
 (.seq (.seq (rg [oo 46 (.faddr 8 8 (.t 2)),
  oo 47 (.load false 1 (.t 46)),
  oo 48 (.faddr 8 8 (.t 3)),
  oo 49 (.load false 1 (.t 48)),
  oo 50 (.call false 33 [(.t 47), (.t 49)]),
  oo 51 (.un .not (.t 50))])
 (.cond (.t 51) (.seq (rg [oo 4 (.mv (.c (.bool false)))])
 .ret) .skip))
 (.seq (rg [oo 4 (.mv (.c (.bool true)))])
 .ret)))))))))))
structure G_f14 (E : Env) : Prop where
  is : Is E 177 2 f14_ac [(4, none)]
  c_f12 : G_f12 E
  c_f22 : G_f22 E
theorem f14_E {E : Env} (h : G_f14 E) (a0 a1 : U) : E 177 [a0, a1] =
 U.noTup a0 fun x1 => U.noTup a1 fun x2 => U.asAgg x1 fun us3 => if 0 = sizes (us3.take 0) then (us3[0]?).bind fun e4 => U.asVar false 1 e4 fun e5 => U.asAgg x2 fun us6 => if 0 = sizes (us6.take 0) then (us6[0]?).bind fun e7 => U.asVar false 1 e7 fun e8 => (U.bin .neq e5 e8).bind fun t9 => U.asBool t9
 (some (.bool false))
 (U.asAgg x1 fun us10 => if 1 = sizes (us10.take 1) then (us10[1]?).bind fun e11 => U.asVar false 1 e11 fun e12 => U.asAgg x2 fun us13 => if 1 = sizes (us13.take 1) then (us13[1]?).bind fun e14 => U.asVar false 1 e14 fun e15 => (U.bin .neq e12 e15).bind fun t16 => U.asBool t16
 (some (.bool false))
 (U.asAgg x1 fun us17 => if 2 = sizes (us17.take 2) then (us17[2]?).bind fun e18 => U.asVar false 1 e18 fun e19 => U.asAgg x2 fun us20 => if 2 = sizes (us20.take 2) then (us20[2]?).bind fun e21 => U.asVar false 1 e21 fun e22 => (U.bin .neq e19 e22).bind fun t23 => U.asBool t23
 (some (.bool false))
 (U.asAgg x1 fun us24 => if 3 = sizes (us24.take 3) then (us24[3]?).bind fun e25 => U.asVar false 1 e25 fun e26 => U.asAgg x2 fun us27 => if 3 = sizes (us27.take 3) then (us27[3]?).bind fun e28 => U.asVar false 1 e28 fun e29 => (U.bin .neq e26 e29).bind fun t30 => U.asBool t30
 (some (.bool false))
 (U.asAgg x1 fun us31 => if 4 = sizes (us31.take 4) then (us31[4]?).bind fun e32 => U.asVar false 1 e32 fun e33 => U.asAgg x2 fun us34 => if 4 = sizes (us34.take 4) then (us34[4]?).bind fun e35 => U.asVar false 1 e35 fun e36 => (U.bin .neq e33 e36).bind fun t37 => U.asBool t37
 (some (.bool false))
 (U.asAgg x1 fun us38 => if 5 = sizes (us38.take 5) then (us38[5]?).bind fun e39 => U.asVar false 1 e39 fun e40 => U.asAgg x2 fun us41 => if 5 = sizes (us41.take 5) then (us41[5]?).bind fun e42 => U.asVar false 1 e42 fun e43 => (U.bin .neq e40 e43).bind fun t44 => U.asBool t44
 (some (.bool false))
 (U.asAgg x1 fun us45 => if 6 = sizes (us45.take 6) then (us45[6]?).bind fun e46 => U.asVar false 1 e46 fun e47 => U.asAgg x2 fun us48 => if 6 = sizes (us48.take 6) then (us48[6]?).bind fun e49 => U.asVar false 1 e49 fun e50 => (U.bin .neq e47 e50).bind fun t51 => U.asBool t51
 (some (.bool false))
 (U.asAgg x1 fun us52 => if 7 = sizes (us52.take 7) then (us52[7]?).bind fun e53 => U.asVar false 1 e53 fun e54 => U.asAgg x2 fun us55 => if 7 = sizes (us55.take 7) then (us55[7]?).bind fun e56 => U.asVar false 1 e56 fun e57 => (E 34 [e54, e57]).bind fun t58 => (U.un .not t58).bind fun t59 => U.asBool t59
 (some (.bool false))
 (U.asAgg x1 fun us60 => if 8 = sizes (us60.take 8) then (us60[8]?).bind fun e61 => U.asVar false 1 e61 fun e62 => U.asAgg x2 fun us63 => if 8 = sizes (us63.take 8) then (us63[8]?).bind fun e64 => U.asVar false 1 e64 fun e65 => (E 33 [e62, e65]).bind fun t66 => (U.un .not t66).bind fun t67 => U.asBool t67
 (some (.bool false))
 (some (.bool true)) else none else none) else none else none) else none else none) else none else none) else none else none) else none else none) else none else none) else none else none) else none else none := (h.is _ rfl).trans ((Qe rfl).trans (by kernel_rfl))
def f15_b0 : AC :=
 (.seq (.seq (rg [oo 11 (.mv (.t 5)),
  oo 12 (.mv (.t 0)),
  oo 13 (.len false (.t 12)),
  oo 14 (.bin .lss (.t 11) (.t 13))])
 (.cond (.t 14) .skip (.exit 0)))
 (.seq (.block 1 (.seq (.region 10 [oo 17 (.mv (.t 0)),
  oo 18 (.mv (.t 5)),
  oo 19 (.iaddr 9 (.t 17) (.t 18)),
  oo 20 (.load true 9 (.t 19)),
  oo 21 (.mv (.t 1)),
  oo 22 (.mv (.t 5)),
  oo 23 (.iaddr 9 (.t 21) (.t 22)),
  oo 24 (.load true 9 (.t 23)),
  oo 25 (.call false 177 [(.t 20), (.t 24)]),
  oo 26 (.un .not (.t 25))])
 (.cond (.t 26) (.seq (rg [oo 4 (.mv (.c (.bool false)))])
 .ret) .skip)))
 (rg [oo 15 (.mv (.t 5)),
  oo 16 (.bin .add (.t 15) (ci 1)),
  oo 5 (.mv (.t 16))])))
def f15_r0 : AC :=
 (.seq (rg [oo 4 (.mv (.c (.bool true)))])
 .ret)
def f15_ac : AC :=
 (.seq (rg [oo 4 (.mv (.c (.bool false)))])
 (.seq (.seq (rg [oo 6 (.mv (.t 0)),
  oo 7 (.len false (.t 6)),
  oo 8 (.mv (.t 1)),
  oo 9 (.len false (.t 8)),
  oo 10 (.bin .neq (.t 7) (.t 9))])
 (.cond (.t 10) (.seq (rg [oo 4 (.mv (.c (.bool false)))])
 .ret) .skip))
 (.seq (.seq (rg [oo 5 (.mv (ci 0))])
 (.block 0 (.loop ⟨[0, 1, 5], [], []⟩ f15_b0)))
 f15_r0)))
noncomputable def f15_l0 (E : Env) (x0 : U) (x1 : U) (x5 : U) : Option U := loopK (roundOf E ⟨[0, 1, 5], [], []⟩ f15_b0 (blockK 0 (seqK (fun s => exec E f15_r0 s (finish [(4, none)])) (finish [(4, none)])))) ([.val x0, .val x1, .val x5], [])
theorem Qjf (E : Env) (x0 : U) (x1 : U) (x5 : U) : f15_l0 E x0 x1 x5 =
 (U.lenOf false x0).bind fun n4 => (U.bin .lss x5 (.int .i64 (n4 : Int))).bind fun t5 => U.asBool t5
 (U.asInt x5 fun n6 => U.elemAt 9 x0 n6 fun e7 => U.asVar true 9 e7 fun e8 => U.asInt x5 fun n9 => U.elemAt 9 x1 n9 fun e10 => U.asVar true 9 e10 fun e11 => (E 177 [e8, e11]).bind fun t12 => (U.un .not t12).bind fun t13 => U.asBool t13
 (some (.bool false))
 ((U.bin .add x5 (.int .i64 1)).bind fun t14 => f15_l0 E x0 x1 t14))
 (some (.bool true)) := (Qf E _ _ _ _).trans (by kernel_rfl)
structure G_f15 (E : Env) : Prop where
  is : Is E 176 2 f15_ac [(4, none)]
  c_f14 : G_f14 E
theorem f15_E {E : Env} (h : G_f15 E) (a0 a1 : U) : E 176 [a0, a1] =
 (U.lenOf false a0).bind fun n1 => (U.lenOf false a1).bind fun n2 => (U.bin .neq (.int .i64 (n1 : Int)) (.int .i64 (n2 : Int))).bind fun t3 => U.asBool t3
 (some (.bool false))
 (f15_l0 E a0 a1 (.int .i64 0)) := (h.is _ rfl).trans ((Qe rfl).trans (by kernel_rfl))
def f9_ac : AC :=
 (.seq (rg [oo 2 (.box false 2 (.t 0)),
  oo 3 (.box false 3 (.t 1)),
  oo 4 (.mv (.c (.bool false)))])
 (.seq (.seq (rg [oo 5 (.faddr 0 0 (.t 2)),
  oo 6 (.load false 1 (.t 5)),
  oo 7 (.faddr 0 0 (.t 3)),
  oo 8 (.load false 1 (.t 7)),
  oo 9 (.bin .neq (.t 6) (.t 8))])
 (.cond (.t 9) (.seq (rg [oo 4 (.mv (.c (.bool false)))])
 .ret) .skip))
 (.seq (.seq (rg [oo 10 (.faddr 1 1 (.t 2)),
  oo 11 (.load false 1 (.t 10)),
  oo 12 (.faddr 1 1 (.t 3)),
  oo 13 (.load false 1 (.t 12)),
  oo 14 (.bin .neq (.t 11) (.t 13))])
 (.cond (.t 14) (.seq (rg [oo 4 (.mv (.c (.bool false)))])
 .ret) .skip))
 (.seq (rg [oo 4 (.mv (.c (.bool true)))])
 .ret))))
structure G_f9 (E : Env) : Prop where
  is : Is E 178 2 f9_ac [(4, none)]
theorem f9_E {E : Env} (h : G_f9 E) (a0 a1 : U) : E 178 [a0, a1] =
 U.noTup a0 fun x1 => U.noTup a1 fun x2 => U.asAgg x1 fun us3 => if 0 = sizes (us3.take 0) then (us3[0]?).bind fun e4 => U.asVar false 1 e4 fun e5 => U.asAgg x2 fun us6 => if 0 = sizes (us6.take 0) then (us6[0]?).bind fun e7 => U.asVar false 1 e7 fun e8 => (U.bin .neq e5 e8).bind fun t9 => U.asBool t9
 (some (.bool false))
 (U.asAgg x1 fun us10 => if 1 = sizes (us10.take 1) then (us10[1]?).bind fun e11 => U.asVar false 1 e11 fun e12 => U.asAgg x2 fun us13 => if 1 = sizes (us13.take 1) then (us13[1]?).bind fun e14 => U.asVar false 1 e14 fun e15 => (U.bin .neq e12 e15).bind fun t16 => U.asBool t16
 (some (.bool false))
 (some (.bool true)) else none else none) else none else none := (h.is _ rfl).trans ((Qe rfl).trans (by kernel_rfl))
def f10_b0 : AC :=
 (.seq (.seq (rg [oo 11 (.mv (.t 5)),
  oo 12 (.mv (.t 0)),
  oo 13 (.len false (.t 12)),
  oo 14 (.bin .lss (.t 11) (.t 13))])
 (.cond (.t 14) .skip (.exit 0)))
 (.seq (.block 1 (.seq (.region 10 [oo 17 (.mv (.t 0)),
  oo 18 (.mv (.t 5)),
  oo 19 (.iaddr 2 (.t 17) (.t 18)),
  oo 20 (.load true 2 (.t 19)),
  oo 21 (.mv (.t 1)),
  oo 22 (.mv (.t 5)),
  oo 23 (.iaddr 2 (.t 21) (.t 22)),
  oo 24 (.load true 2 (.t 23)),
  oo 25 (.call false 178 [(.t 20), (.t 24)]),
  oo 26 (.un .not (.t 25))])
 (.cond (.t 26) (.seq (rg [oo 4 (.mv (.c (.bool false)))])
 .ret) .skip)))
 (rg [oo 15 (.mv (.t 5)),
  oo 16 (.bin .add (.t 15) (ci 1)),
  oo 5 (.mv (.t 16))])))
def f10_r0 : AC :=
 (.seq (rg [oo 4 (.mv (.c (.bool true)))])
 .ret)
def f10_ac : AC :=
 (.seq (rg [oo 4 (.mv (.c (.bool false)))])
 (.seq (.seq (rg [oo 6 (.mv (.t 0)),
  oo 7 (.len false (.t 6)),
  oo 8 (.mv (.t 1)),
  oo 9 (.len false (.t 8)),
  oo 10 (.bin .neq (.t 7) (.t 9))])
 (.cond (.t 10) (.seq (rg [oo 4 (.mv (.c (.bool false)))])
 .ret) .skip))
 (.seq (.seq (rg [oo 5 (.mv (ci 0))])
 (.block 0 (.loop ⟨[0, 1, 5], [], []⟩ f10_b0)))
 f10_r0)))
noncomputable def f10_l0 (E : Env) (x0 : U) (x1 : U) (x5 : U) : Option U := loopK (roundOf E ⟨[0, 1, 5], [], []⟩ f10_b0 (blockK 0 (seqK (fun s => exec E f10_r0 s (finish [(4, none)])) (finish [(4, none)])))) ([.val x0, .val x1, .val x5], [])
theorem Qi9 (E : Env) (x0 : U) (x1 : U) (x5 : U) : f10_l0 E x0 x1 x5 =
 (U.lenOf false x0).bind fun n4 => (U.bin .lss x5 (.int .i64 (n4 : Int))).bind fun t5 => U.asBool t5
 (U.asInt x5 fun n6 => U.elemAt 2 x0 n6 fun e7 => U.asVar true 2 e7 fun e8 => U.asInt x5 fun n9 => U.elemAt 2 x1 n9 fun e10 => U.asVar true 2 e10 fun e11 => (E 178 [e8, e11]).bind fun t12 => (U.un .not t12).bind fun t13 => U.asBool t13
 (some (.bool false))
 ((U.bin .add x5 (.int .i64 1)).bind fun t14 => f10_l0 E x0 x1 t14))
 (some (.bool true)) := (Qf E _ _ _ _).trans (by kernel_rfl)
structure G_f10 (E : Env) : Prop where
  is : Is E 175 2 f10_ac [(4, none)]
  c_f9 : G_f9 E
theorem f10_E {E : Env} (h : G_f10 E) (a0 a1 : U) : E 175 [a0, a1] =
 (U.lenOf false a0).bind fun n1 => (U.lenOf false a1).bind fun n2 => (U.bin .neq (.int .i64 (n1 : Int)) (.int .i64 (n2 : Int))).bind fun t3 => U.asBool t3
 (some (.bool false))
 (f10_l0 E a0 a1 (.int .i64 0)) := (h.is _ rfl).trans ((Qe rfl).trans (by kernel_rfl))
def f19_ac : AC :=
 (.seq (rg [oo 2 (.box false 2 (.t 0)),
  oo 3 (.box false 3 (.t 1)),
  oo 4 (.mv (.c (.bool false)))])
 (.seq (.seq (rg [oo 5 (.faddr 0 0 (.t 2)),
  oo 6 (.load false 1 (.t 5)),
  oo 7 (.faddr 0 0 (.t 3)),
  oo 8 (.load false 1 (.t 7)),
  oo 9 (.bin .neq (.t 6) (.t 8))])
 (.cond (.t 9) (.seq (rg [oo 4 (.mv (.c (.bool false)))])
 .ret) .skip))
 (.seq (.seq (rg [oo 10 (.faddr 1 1 (.t 2)),
  oo 11 (.load false 1 (.t 10)),
  oo 12 (.faddr 1 1 (.t 3)),
  oo 13 (.load false 1 (.t 12)),
  oo 14 (.bin .neq (.t 11) (.t 13))])
 (.cond (.t 14) (.seq (rg [oo 4 (.mv (.c (.bool false)))])
 .ret) .skip))
 (.seq (rg [oo 4 (.mv (.c (.bool true)))])
 .ret))))
structure G_f19 (E : Env) : Prop where
  is : Is E 179 2 f19_ac [(4, none)]
theorem f19_E {E : Env} (h : G_f19 E) (a0 a1 : U) : E 179 [a0, a1] =
 U.noTup a0 fun x1 => U.noTup a1 fun x2 => U.asAgg x1 fun us3 => if 0 = sizes (us3.take 0) then (us3[0]?).bind fun e4 => U.asVar false 1 e4 fun e5 => U.asAgg x2 fun us6 => if 0 = sizes (us6.take 0) then (us6[0]?).bind fun e7 => U.asVar false 1 e7 fun e8 => (U.bin .neq e5 e8).bind fun t9 => U.asBool t9
 (some (.bool false))
 (U.asAgg x1 fun us10 => if 1 = sizes (us10.take 1) then (us10[1]?).bind fun e11 => U.asVar false 1 e11 fun e12 => U.asAgg x2 fun us13 => if 1 = sizes (us13.take 1) then (us13[1]?).bind fun e14 => U.asVar false 1 e14 fun e15 => (U.bin .neq e12 e15).bind fun t16 => U.asBool t16
 (some (.bool false))
 (some (.bool true)) else none else none) else none else none := (h.is _ rfl).trans ((Qe rfl).trans (by kernel_rfl))
def f20_b0 : AC :=
 (.seq (.seq (rg [oo 11 (.mv (.t 5)),
  oo 12 (.mv (.t 0)),
  oo 13 (.len false (.t 12)),
  oo 14 (.bin .lss (.t 11) (.t 13))])
 (.cond (.t 14) .skip (.exit 0)))
 (.seq (.block 1 (.seq (.region 10 [oo 17 (.mv (.t 0)),
  oo 18 (.mv (.t 5)),
  oo 19 (.iaddr 2 (.t 17) (.t 18)),
  oo 20 (.load true 2 (.t 19)),
  oo 21 (.mv (.t 1)),
  oo 22 (.mv (.t 5)),
  oo 23 (.iaddr 2 (.t 21) (.t 22)),
  oo 24 (.load true 2 (.t 23)),
  oo 25 (.call false 179 [(.t 20), (.t 24)]),
  oo 26 (.un .not (.t 25))])
 (.cond (.t 26) (.seq (rg [oo 4 (.mv (.c (.bool false)))])
 .ret) .skip)))
 (rg [oo 15 (.mv (.t 5)),
  oo 16 (.bin .add (.t 15) (ci 1)),
  oo 5 (.mv (.t 16))])))
def f20_r0 : AC :=
 (.seq (rg [oo 4 (.mv (.c (.bool true)))])
 .ret)
def f20_ac : AC :=
 (.seq (rg [oo 4 (.mv (.c (.bool false)))])
 (.seq (.seq (rg [oo 6 (.mv (.t 0)),
  oo 7 (.len false (.t 6)),
  oo 8 (.mv (.t 1)),
  oo 9 (.len false (.t 8)),
  oo 10 (.bin .neq (.t 7) (.t 9))])
 (.cond (.t 10) (.seq (rg [oo 4 (.mv (.c (.bool false)))])
 .ret) .skip))
 (.seq (.seq (rg [oo 5 (.mv (ci 0))])
 (.block 0 (.loop ⟨[0, 1, 5], [], []⟩ f20_b0)))
 f20_r0)))
noncomputable def f20_l0 (E : Env) (x0 : U) (x1 : U) (x5 : U) : Option U := loopK (roundOf E ⟨[0, 1, 5], [], []⟩ f20_b0 (blockK 0 (seqK (fun s => exec E f20_r0 s (finish [(4, none)])) (finish [(4, none)])))) ([.val x0, .val x1, .val x5], [])
theorem Qjo (E : Env) (x0 : U) (x1 : U) (x5 : U) : f20_l0 E x0 x1 x5 =
 (U.lenOf false x0).bind fun n4 => (U.bin .lss x5 (.int .i64 (n4 : Int))).bind fun t5 => U.asBool t5
 (U.asInt x5 fun n6 => U.elemAt 2 x0 n6 fun e7 => U.asVar true 2 e7 fun e8 => U.asInt x5 fun n9 => U.elemAt 2 x1 n9 fun e10 => U.asVar true 2 e10 fun e11 => (E 179 [e8, e11]).bind fun t12 => (U.un .not t12).bind fun t13 => U.asBool t13
 (some (.bool false))
 ((U.bin .add x5 (.int .i64 1)).bind fun t14 => f20_l0 E x0 x1 t14))
 (some (.bool true)) := (Qf E _ _ _ _).trans (by kernel_rfl)
structure G_f20 (E : Env) : Prop where
  is : Is E 174 2 f20_ac [(4, none)]
  c_f19 : G_f19 E
theorem f20_E {E : Env} (h : G_f20 E) (a0 a1 : U) : E 174 [a0, a1] =
 (U.lenOf false a0).bind fun n1 => (U.lenOf false a1).bind fun n2 => (U.bin .neq (.int .i64 (n1 : Int)) (.int .i64 (n2 : Int))).bind fun t3 => U.asBool t3
 (some (.bool false))
 (f20_l0 E a0 a1 (.int .i64 0)) := (h.is _ rfl).trans ((Qe rfl).trans (by kernel_rfl))
def f8_ac : AC :=
 (.seq (rg [oo 2 (.box false 2 (.t 0)),
  oo 3 (.box false 3 (.t 1)),
  oo 4 (.mv (.c (.bool false)))])
 (.seq (.seq (rg [oo 5 (.faddr 0 0 (.t 2)),
  oo 6 (.load false 1 (.t 5)),
  oo 7 (.faddr 0 0 (.t 3)),
  oo 8 (.load false 1 (.t 7)),
  oo 9 (.eqv true 0 (.t 6) (.t 8))])
 (.cond (.t 9) (.seq (rg [oo 4 (.mv (.c (.bool false)))])
 .ret) .skip))
 (.seq (.seq (rg [oo 10 (.faddr 1 1 (.t 2)),
  oo 11 (.load true 1 (.t 10)),
  oo 12 (.faddr 1 1 (.t 3)),
  oo 13 (.load true 1 (.t 12)),
  oo 14 (.call false 97 [(.t 11), (.t 13)]),
  oo 15 (.un .not (.t 14))])
 (.cond (.t 15) (.seq (rg [oo 4 (.mv (.c (.bool false)))])
 .ret) .skip))
 (.seq (.seq (rg [oo 16 (.faddr 2 2 (.t 2)),
  oo 17 (.load false 1 (.t 16)),
  oo 18 (.faddr 2 2 (.t 3)),
  oo 19 (.load false 1 (.t 18)),
  oo 20 (.call false 176 [(.t 17), (.t 19)]),
  oo 21 (.un .not (.t 20))])
 (.cond (.t 21) (.seq (rg [oo 4 (.mv (.c (.bool false)))])
 .ret) .skip))
 (.seq (.seq (rg [oo 22 (.faddr 3 3 (.t 2)),
  oo 23 (.load false 1 (.t 22)),
  oo 24 (.faddr 3 3 (.t 3)),
  oo 25 (.load false 1 (.t 24)),
  oo 26 (.call false 175 [(.t 23), (.t 25)]),
  oo 27 (.un .not (.t 26))])
 (.cond (.t 27) (.seq (rg [oo 4 (.mv (.c (.bool false)))])
 .ret) .skip))
 (.seq (.seq (rg [oo 28 (.faddr 4 4 (.t 2)),
  oo 29 (.load false 1 (.t 28)),
  oo 30 (.faddr 4 4 (.t 3)),
  oo 31 (.load false 1 (.t 30)),
  oo 32 (.call false 174 [(.t 29), (.t 31)]),
  oo 33 (.un .not (.t 32))])
 (.cond (.t 33) (.seq (rg [oo 4 (.mv (.c (.bool false)))])
 .ret) .skip))
 (.seq (.seq (rg [oo 34 (.faddr 5 5 (.t 2)),
  oo 35 (.load false 1 (.t 34)),
  oo 36 (.faddr 5 5 (.t 3)),
  oo 37 (.load false 1 (.t 36)),
  oo 38 (.bin .neq (.t 35) (.t 37))])
 (.cond (.t 38) (.seq (rg [oo 4 (.mv (.c (.bool false)))])
 .ret) .skip))
 (.seq (rg [oo 4 (.mv (.c (.bool true)))])
 .ret))))))))
structure G_f8 (E : Env) : Prop where
  is : Is E 125 2 f8_ac [(4, none)]
  c_f13 : G_f13 E
  c_f15 : G_f15 E
  c_f10 : G_f10 E
  c_f20 : G_f20 E
theorem f8_E {E : Env} (h : G_f8 E) (a0 a1 : U) : E 125 [a0, a1] =
 U.noTup a0 fun x1 => U.noTup a1 fun x2 => U.asAgg x1 fun us3 => if 0 = sizes (us3.take 0) then (us3[0]?).bind fun e4 => U.asVar false 1 e4 fun e5 => U.asAgg x2 fun us6 => if 0 = sizes (us6.take 0) then (us6[0]?).bind fun e7 => U.asVar false 1 e7 fun e8 => (U.eqv 0 e5 e8).bind fun q9 => U.asBool (.bool (!q9))
 (some (.bool false))
 (U.asAgg x1 fun us10 => if 1 = sizes (us10.take 1) then (us10[1]?).bind fun e11 => U.asVar true 1 e11 fun e12 => U.asAgg x2 fun us13 => if 1 = sizes (us13.take 1) then (us13[1]?).bind fun e14 => U.asVar true 1 e14 fun e15 => (E 97 [e12, e15]).bind fun t16 => (U.un .not t16).bind fun t17 => U.asBool t17
 (some (.bool false))
 (U.asAgg x1 fun us18 => if 2 = sizes (us18.take 2) then (us18[2]?).bind fun e19 => U.asVar false 1 e19 fun e20 => U.asAgg x2 fun us21 => if 2 = sizes (us21.take 2) then (us21[2]?).bind fun e22 => U.asVar false 1 e22 fun e23 => (E 176 [e20, e23]).bind fun t24 => (U.un .not t24).bind fun t25 => U.asBool t25
 (some (.bool false))
 (U.asAgg x1 fun us26 => if 3 = sizes (us26.take 3) then (us26[3]?).bind fun e27 => U.asVar false 1 e27 fun e28 => U.asAgg x2 fun us29 => if 3 = sizes (us29.take 3) then (us29[3]?).bind fun e30 => U.asVar false 1 e30 fun e31 => (E 175 [e28, e31]).bind fun t32 => (U.un .not t32).bind fun t33 => U.asBool t33
 (some (.bool false))
 (U.asAgg x1 fun us34 => if 4 = sizes (us34.take 4) then (us34[4]?).bind fun e35 => U.asVar false 1 e35 fun e36 => U.asAgg x2 fun us37 => if 4 = sizes (us37.take 4) then (us37[4]?).bind fun e38 => U.asVar false 1 e38 fun e39 => (E 174 [e36, e39]).bind fun t40 => (U.un .not t40).bind fun t41 => U.asBool t41
 (some (.bool false))
 (U.asAgg x1 fun us42 => if 5 = sizes (us42.take 5) then (us42[5]?).bind fun e43 => U.asVar false 1 e43 fun e44 => U.asAgg x2 fun us45 => if 5 = sizes (us45.take 5) then (us45[5]?).bind fun e46 => U.asVar false 1 e46 fun e47 => (U.bin .neq e44 e47).bind fun t48 => U.asBool t48
 (some (.bool false))
 (some (.bool true)) else none else none) else none else none) else none else none) else none else none) else none else none) else none else none := (h.is _ rfl).trans ((Qe rfl).trans (by kernel_rfl))
def f28_b0 : AC :=
 (.seq (.seq (rg [oo 6 (.mv (.t 5)),
  oo 7 (.mv (.t 0)),
  oo 8 (.len false (.t 7)),
  oo 9 (.bin .lss (.t 6) (.t 8))])
 (.cond (.t 9) .skip (.exit 0)))
 (.seq (.block 1 (.seq (.seq (rg [oo 12 (.mv (.t 0)),
  oo 13 (.mv (.t 5)),
  oo 14 (.iaddr 5 (.t 12) (.t 13)),
  oo 15 (.faddr 0 0 (.t 14)),
  oo 16 (.load false 1 (.t 15)),
  oo 17 (.mv (.t 1)),
  oo 18 (.bin .neq (.t 16) (.t 17))])
 (.cond (.t 18) (.seq (rg [oo 4 (.mv (ci (-1)))])
 .ret) .skip))
 (.seq (rg [oo 19 (.mv (.t 1)),
  oo 20 (.bin .add (.t 19) (ci 1)),
  oo 1 (.mv (.t 20))])
 (.seq (.seq (rg [oo 21 (.mv (.t 0)),
  oo 22 (.mv (.t 5)),
  oo 23 (.iaddr 5 (.t 21) (.t 22)),
  oo 24 (.faddr 1 1 (.t 23)),
  oo 25 (.load false 1 (.t 24)),
  oo 26 (.mv (.t 1)),
  oo 27 (.bin .neq (.t 25) (.t 26))])
 (.cond (.t 27) (.seq (rg [oo 4 (.mv (ci (-1)))])
 .ret) .skip))
 (.seq (rg [oo 28 (.mv (.t 1)),
  oo 29 (.bin .add (.t 28) (ci 1)),
  oo 1 (.mv (.t 29))])
 (.seq (.seq (rg [oo 30 (.mv (.t 0)),
  oo 31 (.mv (.t 5)),
  oo 32 (.iaddr 5 (.t 30) (.t 31)),
  oo 33 (.faddr 2 2 (.t 32)),
  oo 34 (.load false 1 (.t 33)),
  oo 35 (.mv (.t 1)),
  oo 36 (.bin .neq (.t 34) (.t 35))])
 (.cond (.t 36) (.seq (rg [oo 4 (.mv (ci (-1)))])
 .ret) .skip))
 (.seq (rg [oo 37 (.mv (.t 1)),
  oo 38 (.bin .add (.t 37) (ci 1)),
  oo 1 (.mv (.t 38))])
 (.seq (.seq (rg [oo 39 (.mv (.t 0)),
  oo 40 (.mv (.t 5)),
  oo 41 (.iaddr 5 (.t 39) (.t 40)),
  oo 42 (.faddr 3 3 (.t 41)),
  oo 43 (.load false 1 (.t 42)),
  oo 44 (.mv (.t 1)),
  oo 45 (.bin .neq (.t 43) (.t 44))])
 (.cond (.t 45) (.seq (rg [oo 4 (.mv (ci (-1)))])
 .ret) .skip))
 (.seq (rg [oo 46 (.mv (.t 1)),
  oo 47 (.bin .add (.t 46) (ci 1)),
  oo 1 (.mv (.t 47))])
 (.seq (.seq (rg [oo 48 (.mv (.t 0)),
  oo 49 (.mv (.t 5)),
  oo 50 (.iaddr 5 (.t 48) (.t 49)),
  oo 51 (.faddr 4 4 (.t 50)),
  oo 52 (.load false 1 (.t 51)),
  oo 53 (.mv (.t 1)),
  oo 54 (.bin .neq (.t 52) (.t 53))])
 (.cond (.t 54) (.seq (rg [oo 4 (.mv (ci (-1)))])
 .ret) .skip))
 (rg [oo 55 (.mv (.t 1)),
  oo 56 (.bin .add (.t 55) (ci 1)),
  oo 1 (.mv (.t 56))])))))))))))
 (rg [oo 10 (.mv (.t 5)),
  oo 11 (.bin .add (.t 10) (ci 1)),
  oo 5 (.mv (.t 11))])))
def f28_r0 : AC :=
 (.seq (rg [oo 57 (.mv (.t 1)),
  oo 4 (.mv (.t 57))])
 .ret)
def f28_ac : AC :=
 (.seq (rg [oo 4 (.mv (ci 0))])
 (.seq (.seq (rg [oo 5 (.mv (ci 0))])
 (.block 0 (.loop ⟨[0, 1, 5], [], []⟩ f28_b0)))
 f28_r0))
noncomputable def f28_l0 (E : Env) (x0 : U) (x1 : U) (x5 : U) : Option U := loopK (roundOf E ⟨[0, 1, 5], [], []⟩ f28_b0 (blockK 0 (seqK (fun s => exec E f28_r0 s (finish [(4, none)])) (finish [(4, none)])))) ([.val x0, .val x1, .val x5], [])
theorem Qjz (E : Env) (x0 : U) (x1 : U) (x5 : U) : f28_l0 E x0 x1 x5 =
 (U.lenOf false x0).bind fun n1 => (U.bin .lss x5 (.int .i64 (n1 : Int))).bind fun t2 => U.asBool t2
 (U.asInt x5 fun n3 => U.elemAt 5 x0 n3 fun e4 => U.fieldAt 0 0 e4 fun f5 => U.asVar false 1 f5 fun e6 => (U.bin .neq e6 x1).bind fun t7 => U.asBool t7
 (some (.int .i64 (-1)))
 ((U.bin .add x1 (.int .i64 1)).bind fun t8 => U.asInt x5 fun n9 => U.elemAt 5 x0 n9 fun e10 => U.fieldAt 1 1 e10 fun f11 => U.asVar false 1 f11 fun e12 => (U.bin .neq e12 t8).bind fun t13 => U.asBool t13
 (some (.int .i64 (-1)))
 ((U.bin .add t8 (.int .i64 1)).bind fun t14 => U.asInt x5 fun n15 => U.elemAt 5 x0 n15 fun e16 => U.fieldAt 2 2 e16 fun f17 => U.asVar false 1 f17 fun e18 => (U.bin .neq e18 t14).bind fun t19 => U.asBool t19
 (some (.int .i64 (-1)))
 ((U.bin .add t14 (.int .i64 1)).bind fun t20 => U.asInt x5 fun n21 => U.elemAt 5 x0 n21 fun e22 => U.fieldAt 3 3 e22 fun f23 => U.asVar false 1 f23 fun e24 => (U.bin .neq e24 t20).bind fun t25 => U.asBool t25
 (some (.int .i64 (-1)))
 ((U.bin .add t20 (.int .i64 1)).bind fun t26 => U.asInt x5 fun n27 => U.elemAt 5 x0 n27 fun e28 => U.fieldAt 4 4 e28 fun f29 => U.asVar false 1 f29 fun e30 => (U.bin .neq e30 t26).bind fun t31 => U.asBool t31
 (some (.int .i64 (-1)))
 ((U.bin .add t26 (.int .i64 1)).bind fun t32 => (U.bin .add x5 (.int .i64 1)).bind fun t33 => f28_l0 E x0 t32 t33))))))
 (some x1) := (Qf E _ _ _ _).trans (by kernel_rfl)
structure G_f28 (E : Env) : Prop where
  is : Is E 234 2 f28_ac [(4, none)]
theorem f28_E {E : Env} (h : G_f28 E) (a0 a1 : U) : E 234 [a0, a1] =
 f28_l0 E a0 a1 (.int .i64 0) := (h.is _ rfl).trans ((Qe rfl).trans (by kernel_rfl))
def f29_b0 : AC :=
 (.seq (.seq (rg [oo 6 (.mv (.t 5)),
  oo 7 (.mv (.t 0)),
  oo 8 (.len false (.t 7)),
  oo 9 (.bin .lss (.t 6) (.t 8))])
 (.cond (.t 9) .skip (.exit 0)))
 (.seq (.block 1 (.seq (rg [oo 12 (.mv (.t 0)),
  oo 13 (.mv (.t 5)),
  oo 14 (.iaddr 1 (.t 12) (.t 13)),
  oo 15 (.load false 1 (.t 14)),
  oo 16 (.mv (.t 1)),
  oo 17 (.call false 234 [(.t 15), (.t 16)]),
  oo 1 (.mv (.t 17))])
 (.seq (rg [oo 18 (.mv (.t 1)),
  oo 19 (.bin .lss (.t 18) (ci 0))])
 (.cond (.t 19) (.seq (rg [oo 4 (.mv (ci (-1)))])
 .ret) .skip))))
 (rg [oo 10 (.mv (.t 5)),
  oo 11 (.bin .add (.t 10) (ci 1)),
  oo 5 (.mv (.t 11))])))
def f29_r0 : AC :=
 (.seq (rg [oo 20 (.mv (.t 1)),
  oo 4 (.mv (.t 20))])
 .ret)
def f29_ac : AC :=
 (.seq (rg [oo 4 (.mv (ci 0))])
 (.seq (.seq (rg [oo 5 (.mv (ci 0))])
 (.block 0 (.loop ⟨[0, 1, 5], [], []⟩ f29_b0)))
 f29_r0))
noncomputable def f29_l0 (E : Env) (x0 : U) (x1 : U) (x5 : U) : Option U := loopK (roundOf E ⟨[0, 1, 5], [], []⟩ f29_b0 (blockK 0 (seqK (fun s => exec E f29_r0 s (finish [(4, none)])) (finish [(4, none)])))) ([.val x0, .val x1, .val x5], [])
theorem Qj1 (E : Env) (x0 : U) (x1 : U) (x5 : U) : f29_l0 E x0 x1 x5 =
 (U.lenOf false x0).bind fun n1 => (U.bin .lss x5 (.int .i64 (n1 : Int))).bind fun t2 => U.asBool t2
 (U.asInt x5 fun n3 => U.elemAt 1 x0 n3 fun e4 => U.asVar false 1 e4 fun e5 => (E 234 [e5, x1]).bind fun t6 => (U.bin .lss t6 (.int .i64 0)).bind fun t7 => U.asBool t7
 (some (.int .i64 (-1)))
 ((U.bin .add x5 (.int .i64 1)).bind fun t8 => f29_l0 E x0 t6 t8))
 (some x1) := (Qf E _ _ _ _).trans (by kernel_rfl)
structure G_f29 (E : Env) : Prop where
  is : Is E 233 2 f29_ac [(4, none)]
  c_f28 : G_f28 E
theorem f29_E {E : Env} (h : G_f29 E) (a0 a1 : U) : E 233 [a0, a1] =
 f29_l0 E a0 a1 (.int .i64 0) := (h.is _ rfl).trans ((Qe rfl).trans (by kernel_rfl))
def f26_ac : AC :=
 (.seq (rg [oo 2 (.box false 2 (.t 0)),
  oo 4 (.mv (ci 0))])
 (.seq (rg [oo 5 (.faddr 0 0 (.t 2)),
  oo 6 (.load false 1 (.t 5)),
  oo 7 (.mv (.t 1)),
  oo 8 (.call false 233 [(.t 6), (.t 7)]),
  oo 1 (.mv (.t 8))])
 (.seq (.seq (rg [oo 9 (.mv (.t 1)),
  oo 10 (.bin .lss (.t 9) (ci 0))])
 (.cond (.t 10) (.seq (rg [oo 4 (.mv (ci (-1)))])
 .ret) .skip))
 (.seq (rg [oo 11 (.mv (.t 1)),
  oo 4 (.mv (.t 11))])
 .ret))))
structure G_f26 (E : Env) : Prop where
  is : Is E 206 2 f26_ac [(4, none)]
  c_f29 : G_f29 E
theorem f26_E {E : Env} (h : G_f26 E) (a0 a1 : U) : E 206 [a0, a1] =
 U.noTup a0 fun x1 => U.asAgg x1 fun us2 => if 0 = sizes (us2.take 0) then (us2[0]?).bind fun e3 => U.asVar false 1 e3 fun e4 => (E 233 [e4, a1]).bind fun t5 => (U.bin .lss t5 (.int .i64 0)).bind fun t6 => U.asBool t6
 (some (.int .i64 (-1)))
 (some t5) else none := (h.is _ rfl).trans ((Qe rfl).trans (by kernel_rfl))
def f25_b0 : AC :=
 (.seq (.seq (rg [oo 6 (.mv (.t 5)),
  oo 7 (.mv (.t 0)),
  oo 8 (.len false (.t 7)),
  oo 9 (.bin .lss (.t 6) (.t 8))])
 (.cond (.t 9) .skip (.exit 0)))
 (.seq (.block 1 (.seq (.seq (rg [oo 12 (.mv (.t 0)),
  oo 13 (.mv (.t 5)),
  oo 14 (.iaddr 2 (.t 12) (.t 13)),
  oo 15 (.faddr 0 0 (.t 14)),
  oo 16 (.load false 1 (.t 15)),
  oo 17 (.mv (.t 1)),
  oo 18 (.bin .neq (.t 16) (.t 17))])
 (.cond (.t 18) (.seq (rg [oo 4 (.mv (ci (-1)))])
 .ret) .skip))
 (.seq (rg [oo 19 (.mv (.t 1)),
  oo 20 (.bin .add (.t 19) (ci 1)),
  oo 1 (.mv (.t 20))])
 (.seq (.seq (rg [oo 21 (.mv (.t 0)),
  oo 22 (.mv (.t 5)),
  oo 23 (.iaddr 2 (.t 21) (.t 22)),
  oo 24 (.faddr 1 1 (.t 23)),
  oo 25 (.load false 1 (.t 24)),
  oo 26 (.mv (.t 1)),
  oo 27 (.bin .neq (.t 25) (.t 26))])
 (.cond (.t 27) (.seq (rg [oo 4 (.mv (ci (-1)))])
 .ret) .skip))
 (rg [oo 28 (.mv (.t 1)),
  oo 29 (.bin .add (.t 28) (ci 1)),
  oo 1 (.mv (.t 29))])))))
 (rg [oo 10 (.mv (.t 5)),
  oo 11 (.bin .add (.t 10) (ci 1)),
  oo 5 (.mv (.t 11))])))
def f25_r0 : AC :=
 (.seq (rg [oo 30 (.mv (.t 1)),
  oo 4 (.mv (.t 30))])
 .ret)
def f25_ac : AC :=
 (.seq (rg [oo 4 (.mv (ci 0))])
 (.seq (.seq (rg [oo 5 (.mv (ci 0))])
 (.block 0 (.loop ⟨[0, 1, 5], [], []⟩ f25_b0)))
 f25_r0))
noncomputable def f25_l0 (E : Env) (x0 : U) (x1 : U) (x5 : U) : Option U := loopK (roundOf E ⟨[0, 1, 5], [], []⟩ f25_b0 (blockK 0 (seqK (fun s => exec E f25_r0 s (finish [(4, none)])) (finish [(4, none)])))) ([.val x0, .val x1, .val x5], [])
theorem Qjv (E : Env) (x0 : U) (x1 : U) (x5 : U) : f25_l0 E x0 x1 x5 =
 (U.lenOf false x0).bind fun n1 => (U.bin .lss x5 (.int .i64 (n1 : Int))).bind fun t2 => U.asBool t2
 (U.asInt x5 fun n3 => U.elemAt 2 x0 n3 fun e4 => U.fieldAt 0 0 e4 fun f5 => U.asVar false 1 f5 fun e6 => (U.bin .neq e6 x1).bind fun t7 => U.asBool t7
 (some (.int .i64 (-1)))
 ((U.bin .add x1 (.int .i64 1)).bind fun t8 => U.asInt x5 fun n9 => U.elemAt 2 x0 n9 fun e10 => U.fieldAt 1 1 e10 fun f11 => U.asVar false 1 f11 fun e12 => (U.bin .neq e12 t8).bind fun t13 => U.asBool t13
 (some (.int .i64 (-1)))
 ((U.bin .add t8 (.int .i64 1)).bind fun t14 => (U.bin .add x5 (.int .i64 1)).bind fun t15 => f25_l0 E x0 t14 t15)))
 (some x1) := (Qf E _ _ _ _).trans (by kernel_rfl)
structure G_f25 (E : Env) : Prop where
  is : Is E 92 2 f25_ac [(4, none)]
theorem f25_E {E : Env} (h : G_f25 E) (a0 a1 : U) : E 92 [a0, a1] =
 f25_l0 E a0 a1 (.int .i64 0) := (h.is _ rfl).trans ((Qe rfl).trans (by kernel_rfl))
def f31_b0 : AC :=
 (.seq (.seq (rg [oo 6 (.mv (.t 5)),
  oo 7 (.mv (.t 0)),
  oo 8 (.len false (.t 7)),
  oo 9 (.bin .lss (.t 6) (.t 8))])
 (.cond (.t 9) .skip (.exit 0)))
 (.seq (.block 1 (.seq (.seq (rg [oo 12 (.mv (.t 0)),
  oo 13 (.mv (.t 5)),
  oo 14 (.iaddr 2 (.t 12) (.t 13)),
  oo 15 (.faddr 0 0 (.t 14)),
  oo 16 (.load false 1 (.t 15)),
  oo 17 (.mv (.t 1)),
  oo 18 (.bin .neq (.t 16) (.t 17))])
 (.cond (.t 18) (.seq (rg [oo 4 (.mv (ci (-1)))])
 .ret) .skip))
 (.seq (rg [oo 19 (.mv (.t 1)),
  oo 20 (.bin .add (.t 19) (ci 1)),
  oo 1 (.mv (.t 20))])
 (.seq (.seq (rg [oo 21 (.mv (.t 0)),
  oo 22 (.mv (.t 5)),
  oo 23 (.iaddr 2 (.t 21) (.t 22)),
  oo 24 (.faddr 1 1 (.t 23)),
  oo 25 (.load false 1 (.t 24)),
  oo 26 (.mv (.t 1)),
  oo 27 (.bin .neq (.t 25) (.t 26))])
 (.cond (.t 27) (.seq (rg [oo 4 (.mv (ci (-1)))])
 .ret) .skip))
 (rg [oo 28 (.mv (.t 1)),
  oo 29 (.bin .add (.t 28) (ci 1)),
  oo 1 (.mv (.t 29))])))))
 (rg [oo 10 (.mv (.t 5)),
  oo 11 (.bin .add (.t 10) (ci 1)),
  oo 5 (.mv (.t 11))])))
def f31_r0 : AC :=
 (.seq (rg [oo 30 (.mv (.t 1)),
  oo 4 (.mv (.t 30))])
 .ret)
def f31_ac : AC :=
 (.seq (rg [oo 4 (.mv (ci 0))])
 (.seq (.seq (rg [oo 5 (.mv (ci 0))])
 (.block 0 (.loop ⟨[0, 1, 5], [], []⟩ f31_b0)))
 f31_r0))
noncomputable def f31_l0 (E : Env) (x0 : U) (x1 : U) (x5 : U) : Option U := loopK (roundOf E ⟨[0, 1, 5], [], []⟩ f31_b0 (blockK 0 (seqK (fun s => exec E f31_r0 s (finish [(4, none)])) (finish [(4, none)])))) ([.val x0, .val x1, .val x5], [])
theorem Qj5 (E : Env) (x0 : U) (x1 : U) (x5 : U) : f31_l0 E x0 x1 x5 =
 (U.lenOf false x0).bind fun n1 => (U.bin .lss x5 (.int .i64 (n1 : Int))).bind fun t2 => U.asBool t2
 (U.asInt x5 fun n3 => U.elemAt 2 x0 n3 fun e4 => U.fieldAt 0 0 e4 fun f5 => U.asVar false 1 f5 fun e6 => (U.bin .neq e6 x1).bind fun t7 => U.asBool t7
 (some (.int .i64 (-1)))
 ((U.bin .add x1 (.int .i64 1)).bind fun t8 => U.asInt x5 fun n9 => U.elemAt 2 x0 n9 fun e10 => U.fieldAt 1 1 e10 fun f11 => U.asVar false 1 f11 fun e12 => (U.bin .neq e12 t8).bind fun t13 => U.asBool t13
 (some (.int .i64 (-1)))
 ((U.bin .add t8 (.int .i64 1)).bind fun t14 => (U.bin .add x5 (.int .i64 1)).bind fun t15 => f31_l0 E x0 t14 t15)))
 (some x1) := (Qf E _ _ _ _).trans (by kernel_rfl)
structure G_f31 (E : Env) : Prop where
  is : Is E 235 2 f31_ac [(4, none)]
theorem f31_E {E : Env} (h : G_f31 E) (a0 a1 : U) : E 235 [a0, a1] =
 f31_l0 E a0 a1 (.int .i64 0) := (h.is _ rfl).trans ((Qe rfl).trans (by kernel_rfl))
def f27_b0 : AC :=
 (.seq (.seq (rg [oo 6 (.mv (.t 5)),
  oo 7 (.mv (.t 0)),
  oo 8 (.len false (.t 7)),
  oo 9 (.bin .lss (.t 6) (.t 8))])
 (.cond (.t 9) .skip (.exit 0)))
 (.seq (.block 1 (.seq (.seq (rg [oo 12 (.mv (.t 0)),
  oo 13 (.mv (.t 5)),
  oo 14 (.iaddr 9 (.t 12) (.t 13)),
  oo 15 (.faddr 0 0 (.t 14)),
  oo 16 (.load false 1 (.t 15)),
  oo 17 (.mv (.t 1)),
  oo 18 (.bin .neq (.t 16) (.t 17))])
 (.cond (.t 18) (.seq (rg [oo 4 (.mv (ci (-1)))])
 .ret) .skip))
 (.seq (rg [oo 19 (.mv (.t 1)),
  oo 20 (.bin .add (.t 19) (ci 1)),
  oo 1 (.mv (.t 20))])
 (.seq (.seq (rg [oo 21 (.mv (.t 0)),
  oo 22 (.mv (.t 5)),
  oo 23 (.iaddr 9 (.t 21) (.t 22)),
  oo 24 (.faddr 1 1 (.t 23)),
  oo 25 (.load false 1 (.t 24)),
  oo 26 (.mv (.t 1)),
  oo 27 (.bin .neq (.t 25) (.t 26))])
 (.cond (.t 27) (.seq (rg [oo 4 (.mv (ci (-1)))])
 .ret) .skip))
 (.seq (rg [oo 28 (.mv (.t 1)),
  oo 29 (.bin .add (.t 28) (ci 1)),
  oo 1 (.mv (.t 29))])
 (.seq (.seq (rg [oo 30 (.mv (.t 0)),
  oo 31 (.mv (.t 5)),
  oo 32 (.iaddr 9 (.t 30) (.t 31)),
  oo 33 (.faddr 2 2 (.t 32)),
  oo 34 (.load false 1 (.t 33)),
  oo 35 (.mv (.t 1)),
  oo 36 (.bin .neq (.t 34) (.t 35))])
 (.cond (.t 36) (.seq (rg [oo 4 (.mv (ci (-1)))])
 .ret) .skip))
 (.seq (rg [oo 37 (.mv (.t 1)),
  oo 38 (.bin .add (.t 37) (ci 1)),
  oo 1 (.mv (.t 38))])
 (.seq (.seq (rg [oo 39 (.mv (.t 0)),
  oo 40 (.mv (.t 5)),
  oo 41 (.iaddr 9 (.t 39) (.t 40)),
  oo 42 (.faddr 3 3 (.t 41)),
  oo 43 (.load false 1 (.t 42)),
  oo 44 (.mv (.t 1)),
  oo 45 (.bin .neq (.t 43) (.t 44))])
 (.cond (.t 45) (.seq (rg [oo 4 (.mv (ci (-1)))])
 .ret) .skip))
 (.seq (rg [oo 46 (.mv (.t 1)),
  oo 47 (.bin .add (.t 46) (ci 1)),
  oo 1 (.mv (.t 47))])
 (.seq (.seq (rg [oo 48 (.mv (.t 0)),
  oo 49 (.mv (.t 5)),
  oo 50 (.iaddr 9 (.t 48) (.t 49)),
  oo 51 (.faddr 4 4 (.t 50)),
  oo 52 (.load false 1 (.t 51)),
  oo 53 (.mv (.t 1)),
  oo 54 (.bin .neq (.t 52) (.t 53))])
 (.cond (.t 54) (.seq (rg [oo 4 (.mv (ci (-1)))])
 .ret) .skip))
 (.seq (rg [oo 55 (.mv (.t 1)),
  oo 56 (.bin .add (.t 55) (ci 1)),
  oo 1 (.mv (.t 56))])
 (.seq (.seq (rg [oo 57 (.mv (.t 0)),
  oo 58 (.mv (.t 5)),
  oo 59 (.iaddr 9 (.t 57) (.t 58)),
  oo 60 (.faddr 5 5 (.t 59)),
  oo 61 (.load false 1 (.t 60)),
  oo 62 (.mv (.t 1)),
  oo 63 (.bin .neq (.t 61) (.t 62))])
 (.cond (.t 63) (.seq (rg [oo 4 (.mv (ci (-1)))])
 .ret) .skip))
 (.seq (rg [oo 64 (.mv (.t 1)),
  oo 65 (.bin .add (.t 64) (ci 1)),
  oo 1 (.mv (.t 65))])
 (.seq (.seq (rg [oo 66 (.mv (.t 0)),
  oo 67 (.mv (.t 5)),
  oo 68 (.iaddr 9 (.t 66) (.t 67)),
  oo 69 (.faddr 6 6 (.t 68)),
  oo 70 (.load false 1 (.t 69)),
  oo 71 (.mv (.t 1)),
  oo 72 (.bin .neq (.t 70) (.t 71))])
 (.cond (.t 72) (.seq (rg [oo 4 (.mv (ci (-1)))])
 .ret) .skip))
 (.seq (rg [oo 73 (.mv (.t 1)),
  oo 74 (.bin .add (.t 73) (ci 1)),
  oo 1 (.mv (.t 74))])
 (.seq (rg [oo 75 (.mv (.t 0)),
  oo 76 (.mv (.t 5)),
  oo 77 (.iaddr 9 (.t 75) (.t 76)),
  oo 78 (.faddr 7 7 (.t 77)),
  oo 79 (.load false 1 (.t 78)),
  oo 80 (.mv (.t 1)),
  oo 81 (.call false 92 [(.t 79), (.t 80)]),
  oo 1 (.mv (.t 81))])
 (.seq (.seq (rg [oo 82 (.mv (.t 1)),
  oo 83 (.bin .lss (.t 82) (ci 0))])
 (.cond (.t 83) (.seq (rg [oo 4 (.mv (ci (-1)))])
 .ret) .skip))
 (.seq (rg [oo 84 (.mv (.t 0)),
  oo 85 (.mv (.t 5)),
  oo 86 (.iaddr 9 (.t 84) (.t 85)),
  oo 87 (.faddr 8 8 (.t 86)),
  oo 88 (.load false 1 (.t 87)),
  oo 89 (.mv (.t 1)),
  oo 90 (.call false 235 [(.t 88), (.t 89)]),
  oo 1 (.mv (.t 90))])
 (.seq (rg [oo 91 (.mv (.t 1)),
  oo 92 (.bin .lss (.t 91) (ci 0))])
 (.cond (.t 92) (.seq (rg [oo 4 (.mv (ci (-1)))])
 .ret) .skip))))))))))))))))))))
 (rg [oo 10 (.mv (.t 5)),
  oo 11 (.bin .add (.t 10) (ci 1)),
  oo 5 (.mv (.t 11))])))
def f27_r0 : AC :=
 (.seq (rg [oo 93 (.mv (.t 1)),
  oo 4 (.mv (.t 93))])
 .ret)
def f27_ac : AC :=
 (.seq (rg [oo 4 (.mv (ci 0))])
 (.seq (.seq (rg [oo 5 (.mv (ci 0))])
 (.block 0 (.loop ⟨[0, 1, 5], [], []⟩ f27_b0)))
 f27_r0))
noncomputable def f27_l0 (E : Env) (x0 : U) (x1 : U) (x5 : U) : Option U := loopK (roundOf E ⟨[0, 1, 5], [], []⟩ f27_b0 (blockK 0 (seqK (fun s => exec E f27_r0 s (finish [(4, none)])) (finish [(4, none)])))) ([.val x0, .val x1, .val x5], [])
theorem Qjx (E : Env) (x0 : U) (x1 : U) (x5 : U) : f27_l0 E x0 x1 x5 =
 (U.lenOf false x0).bind fun n1 => (U.bin .lss x5 (.int .i64 (n1 : Int))).bind fun t2 => U.asBool t2
 (U.asInt x5 fun n3 => U.elemAt 9 x0 n3 fun e4 => U.fieldAt 0 0 e4 fun f5 => U.asVar false 1 f5 fun e6 => (U.bin .neq e6 x1).bind fun t7 => U.asBool t7
 (some (.int .i64 (-1)))
 ((U.bin .add x1 (.int .i64 1)).bind fun t8 => U.asInt x5 fun n9 => U.elemAt 9 x0 n9 fun e10 => U.fieldAt 1 1 e10 fun f11 => U.asVar false 1 f11 fun e12 => (U.bin .neq e12 t8).bind fun t13 => U.asBool t13
 (some (.int .i64 (-1)))
 ((U.bin .add t8 (.int .i64 1)).bind fun t14 => U.asInt x5 fun n15 => U.elemAt 9 x0 n15 fun e16 => U.fieldAt 2 2 e16 fun f17 => U.asVar false 1 f17 fun e18 => (U.bin .neq e18 t14).bind fun t19 => U.asBool t19
 (some (.int .i64 (-1)))
 ((U.bin .add t14 (.int .i64 1)).bind fun t20 => U.asInt x5 fun n21 => U.elemAt 9 x0 n21 fun e22 => U.fieldAt 3 3 e22 fun f23 => U.asVar false 1 f23 fun e24 => (U.bin .neq e24 t20).bind fun t25 => U.asBool t25
 (some (.int .i64 (-1)))
 ((U.bin .add t20 (.int .i64 1)).bind fun t26 => U.asInt x5 fun n27 => U.elemAt 9 x0 n27 fun e28 => U.fieldAt 4 4 e28 fun f29 => U.asVar false 1 f29 fun e30 => (U.bin .neq e30 t26).bind fun t31 => U.asBool t31
 (some (.int .i64 (-1)))
 ((U.bin .add t26 (.int .i64 1)).bind fun t32 => U.asInt x5 fun n33 => U.elemAt 9 x0 n33 fun e34 => U.fieldAt 5 5 e34 fun f35 => U.asVar false 1 f35 fun e36 => (U.bin .neq e36 t32).bind fun t37 => U.asBool t37
 (some (.int .i64 (-1)))
 ((U.bin .add t32 (.int .i64 1)).bind fun t38 => U.asInt x5 fun n39 => U.elemAt 9 x0 n39 fun e40 => U.fieldAt 6 6 e40 fun f41 => U.asVar false 1 f41 fun e42 => (U.bin .neq e42 t38).bind fun t43 => U.asBool t43
 (some (.int .i64 (-1)))
 ((U.bin .add t38 (.int .i64 1)).bind fun t44 => U.asInt x5 fun n45 => U.elemAt 9 x0 n45 fun e46 => U.fieldAt 7 7 e46 fun f47 => U.asVar false 1 f47 fun e48 => (E 92 [e48, t44]).bind fun t49 => (U.bin .lss t49 (.int .i64 0)).bind fun t50 => U.asBool t50
 (some (.int .i64 (-1)))
 (U.asInt x5 fun n51 => U.elemAt 9 x0 n51 fun e52 => U.fieldAt 8 8 e52 fun f53 => U.asVar false 1 f53 fun e54 => (E 235 [e54, t49]).bind fun t55 => (U.bin .lss t55 (.int .i64 0)).bind fun t56 => U.asBool t56
 (some (.int .i64 (-1)))
 ((U.bin .add x5 (.int .i64 1)).bind fun t57 => f27_l0 E x0 t55 t57))))))))))
 (some x1) := (Qf E _ _ _ _).trans (by kernel_rfl)
structure G_f27 (E : Env) : Prop where
  is : Is E 322 2 f27_ac [(4, none)]
  c_f25 : G_f25 E
  c_f31 : G_f31 E
theorem f27_E {E : Env} (h : G_f27 E) (a0 a1 : U) : E 322 [a0, a1] =
 f27_l0 E a0 a1 (.int .i64 0) := (h.is _ rfl).trans ((Qe rfl).trans (by kernel_rfl))
def f24_b0 : AC :=
 (.seq (.seq (rg [oo 6 (.mv (.t 5)),
  oo 7 (.mv (.t 0)),
  oo 8 (.len false (.t 7)),
  oo 9 (.bin .lss (.t 6) (.t 8))])
 (.cond (.t 9) .skip (.exit 0)))
 (.seq (.block 1 (.seq (.seq (rg [oo 12 (.mv (.t 0)),
  oo 13 (.mv (.t 5)),
  oo 14 (.iaddr 2 (.t 12) (.t 13)),
  oo 15 (.faddr 0 0 (.t 14)),
  oo 16 (.load false 1 (.t 15)),
  oo 17 (.mv (.t 1)),
  oo 18 (.bin .neq (.t 16) (.t 17))])
 (.cond (.t 18) (.seq (rg [oo 4 (.mv (ci (-1)))])
 .ret) .skip))
 (.seq (rg [oo 19 (.mv (.t 1)),
  oo 20 (.bin .add (.t 19) (ci 1)),
  oo 1 (.mv (.t 20))])
 (.seq (.seq (rg [oo 21 (.mv (.t 0)),
  oo 22 (.mv (.t 5)),
  oo 23 (.iaddr 2 (.t 21) (.t 22)),
  oo 24 (.faddr 1 1 (.t 23)),
  oo 25 (.load false 1 (.t 24)),
  oo 26 (.mv (.t 1)),
  oo 27 (.bin .neq (.t 25) (.t 26))])
 (.cond (.t 27) (.seq (rg [oo 4 (.mv (ci (-1)))])
 .ret) .skip))
 (rg [oo 28 (.mv (.t 1)),
  oo 29 (.bin .add (.t 28) (ci 1)),
  oo 1 (.mv (.t 29))])))))
 (rg [oo 10 (.mv (.t 5)),
  oo 11 (.bin .add (.t 10) (ci 1)),
  oo 5 (.mv (.t 11))])))
def f24_r0 : AC :=
 (.seq (rg [oo 30 (.mv (.t 1)),
  oo 4 (.mv (.t 30))])
 .ret)
def f24_ac : AC :=
 (.seq (rg [oo 4 (.mv (ci 0))])
 (.seq (.seq (rg [oo 5 (.mv (ci 0))])
 (.block 0 (.loop ⟨[0, 1, 5], [], []⟩ f24_b0)))
 f24_r0))
noncomputable def f24_l0 (E : Env) (x0 : U) (x1 : U) (x5 : U) : Option U := loopK (roundOf E ⟨[0, 1, 5], [], []⟩ f24_b0 (blockK 0 (seqK (fun s => exec E f24_r0 s (finish [(4, none)])) (finish [(4, none)])))) ([.val x0, .val x1, .val x5], [])
theorem Qjt (E : Env) (x0 : U) (x1 : U) (x5 : U) : f24_l0 E x0 x1 x5 =
 (U.lenOf false x0).bind fun n1 => (U.bin .lss x5 (.int .i64 (n1 : Int))).bind fun t2 => U.asBool t2
 (U.asInt x5 fun n3 => U.elemAt 2 x0 n3 fun e4 => U.fieldAt 0 0 e4 fun f5 => U.asVar false 1 f5 fun e6 => (U.bin .neq e6 x1).bind fun t7 => U.asBool t7
 (some (.int .i64 (-1)))
 ((U.bin .add x1 (.int .i64 1)).bind fun t8 => U.asInt x5 fun n9 => U.elemAt 2 x0 n9 fun e10 => U.fieldAt 1 1 e10 fun f11 => U.asVar false 1 f11 fun e12 => (U.bin .neq e12 t8).bind fun t13 => U.asBool t13
 (some (.int .i64 (-1)))
 ((U.bin .add t8 (.int .i64 1)).bind fun t14 => (U.bin .add x5 (.int .i64 1)).bind fun t15 => f24_l0 E x0 t14 t15)))
 (some x1) := (Qf E _ _ _ _).trans (by kernel_rfl)
structure G_f24 (E : Env) : Prop where
  is : Is E 321 2 f24_ac [(4, none)]
theorem f24_E {E : Env} (h : G_f24 E) (a0 a1 : U) : E 321 [a0, a1] =
 f24_l0 E a0 a1 (.int .i64 0) := (h.is _ rfl).trans ((Qe rfl).trans (by kernel_rfl))
def f30_b0 : AC :=
 (.seq (.seq (rg [oo 6 (.mv (.t 5)),
  oo 7 (.mv (.t 0)),
  oo 8 (.len false (.t 7)),
  oo 9 (.bin .lss (.t 6) (.t 8))])
 (.cond (.t 9) .skip (.exit 0)))
 (.seq (.block 1 (.seq (.seq (rg [oo 12 (.mv (.t 0)),
  oo 13 (.mv (.t 5)),
  oo 14 (.iaddr 2 (.t 12) (.t 13)),
  oo 15 (.faddr 0 0 (.t 14)),
  oo 16 (.load false 1 (.t 15)),
  oo 17 (.mv (.t 1)),
  oo 18 (.bin .neq (.t 16) (.t 17))])
 (.cond (.t 18) (.seq (rg [oo 4 (.mv (ci (-1)))])
 .ret) .skip))
 (.seq (rg [oo 19 (.mv (.t 1)),
  oo 20 (.bin .add (.t 19) (ci 1)),
  oo 1 (.mv (.t 20))])
 (.seq (.seq (rg [oo 21 (.mv (.t 0)),
  oo 22 (.mv (.t 5)),
  oo 23 (.iaddr 2 (.t 21) (.t 22)),
  oo 24 (.faddr 1 1 (.t 23)),
  oo 25 (.load false 1 (.t 24)),
  oo 26 (.mv (.t 1)),
  oo 27 (.bin .neq (.t 25) (.t 26))])
 (.cond (.t 27) (.seq (rg [oo 4 (.mv (ci (-1)))])
 .ret) .skip))
 (rg [oo 28 (.mv (.t 1)),
  oo 29 (.bin .add (.t 28) (ci 1)),
  oo 1 (.mv (.t 29))])))))
 (rg [oo 10 (.mv (.t 5)),
  oo 11 (.bin .add (.t 10) (ci 1)),
  oo 5 (.mv (.t 11))])))
def f30_r0 : AC :=
 (.seq (rg [oo 30 (.mv (.t 1)),
  oo 4 (.mv (.t 30))])
 .ret)
def f30_ac : AC :=
 (.seq (rg [oo 4 (.mv (ci 0))])
 (.seq (.seq (rg [oo 5 (.mv (ci 0))])
 (.block 0 (.loop ⟨[0, 1, 5], [], []⟩ f30_b0)))
 f30_r0))
noncomputable def f30_l0 (E : Env) (x0 : U) (x1 : U) (x5 : U) : Option U := loopK (roundOf E ⟨[0, 1, 5], [], []⟩ f30_b0 (blockK 0 (seqK (fun s => exec E f30_r0 s (finish [(4, none)])) (finish [(4, none)])))) ([.val x0, .val x1, .val x5], [])
theorem Qj3 (E : Env) (x0 : U) (x1 : U) (x5 : U) : f30_l0 E x0 x1 x5 =
 (U.lenOf false x0).bind fun n1 => (U.bin .lss x5 (.int .i64 (n1 : Int))).bind fun t2 => U.asBool t2
 (U.asInt x5 fun n3 => U.elemAt 2 x0 n3 fun e4 => U.fieldAt 0 0 e4 fun f5 => U.asVar false 1 f5 fun e6 => (U.bin .neq e6 x1).bind fun t7 => U.asBool t7
 (some (.int .i64 (-1)))
 ((U.bin .add x1 (.int .i64 1)).bind fun t8 => U.asInt x5 fun n9 => U.elemAt 2 x0 n9 fun e10 => U.fieldAt 1 1 e10 fun f11 => U.asVar false 1 f11 fun e12 => (U.bin .neq e12 t8).bind fun t13 => U.asBool t13
 (some (.int .i64 (-1)))
 ((U.bin .add t8 (.int .i64 1)).bind fun t14 => (U.bin .add x5 (.int .i64 1)).bind fun t15 => f30_l0 E x0 t14 t15)))
 (some x1) := (Qf E _ _ _ _).trans (by kernel_rfl)
structure G_f30 (E : Env) : Prop where
  is : Is E 320 2 f30_ac [(4, none)]
theorem f30_E {E : Env} (h : G_f30 E) (a0 a1 : U) : E 320 [a0, a1] =
 f30_l0 E a0 a1 (.int .i64 0) := (h.is _ rfl).trans ((Qe rfl).trans (by kernel_rfl))
def f23_ac : AC :=
 (.seq (rg [oo 2 (.box false 2 (.t 0)),
  oo 4 (.mv (ci 0))])
 (.seq (rg [oo 5 (.faddr 1 1 (.t 2)),
  oo 6 (.load true 1 (.t 5)),
  oo 7 (.mv (.t 1)),
  oo 8 (.call false 206 [(.t 6), (.t 7)]),
  oo 1 (.mv (.t 8))])
 (.seq (.seq (rg [oo 9 (.mv (.t 1)),
  oo 10 (.bin .lss (.t 9) (ci 0))])
 (.cond (.t 10) (.seq (rg [oo 4 (.mv (ci (-1)))])
 .ret) .skip))
 (.seq (rg [oo 11 (.faddr 2 2 (.t 2)),
  oo 12 (.load false 1 (.t 11)),
  oo 13 (.mv (.t 1)),
  oo 14 (.call false 322 [(.t 12), (.t 13)]),
  oo 1 (.mv (.t 14))])
 (.seq (.seq (rg [oo 15 (.mv (.t 1)),
  oo 16 (.bin .lss (.t 15) (ci 0))])
 (.cond (.t 16) (.seq (rg [oo 4 (.mv (ci (-1)))])
 .ret) .skip))
 (.seq (rg [oo 17 (.faddr 3 3 (.t 2)),
  oo 18 (.load false 1 (.t 17)),
  oo 19 (.mv (.t 1)),
  oo 20 (.call false 321 [(.t 18), (.t 19)]),
  oo 1 (.mv (.t 20))])
 (.seq (.seq (rg [oo 21 (.mv (.t 1)),
  oo 22 (.bin .lss (.t 21) (ci 0))])
 (.cond (.t 22) (.seq (rg [oo 4 (.mv (ci (-1)))])
 .ret) .skip))
 (.seq (rg [oo 23 (.faddr 4 4 (.t 2)),
  oo 24 (.load false 1 (.t 23)),
  oo 25 (.mv (.t 1)),
  oo 26 (.call false 320 [(.t 24), (.t 25)]),
  oo 1 (.mv (.t 26))])
 (.seq (.seq (rg [oo 27 (.mv (.t 1)),
  oo 28 (.bin .lss (.t 27) (ci 0))])
 (.cond (.t 28) (.seq (rg [oo 4 (.mv (ci (-1)))])
 .ret) .skip))
 (.seq (rg [oo 29 (.mv (.t 1)),
  oo 4 (.mv (.t 29))])
 .ret))))))))))
structure G_f23 (E : Env) : Prop where
  is : Is E 319 2 f23_ac [(4, none)]
  c_f26 : G_f26 E
  c_f27 : G_f27 E
  c_f24 : G_f24 E
  c_f30 : G_f30 E
theorem f23_E {E : Env} (h : G_f23 E) (a0 a1 : U) : E 319 [a0, a1] =
 U.noTup a0 fun x1 => U.asAgg x1 fun us2 => if 1 = sizes (us2.take 1) then (us2[1]?).bind fun e3 => U.asVar true 1 e3 fun e4 => (E 206 [e4, a1]).bind fun t5 => (U.bin .lss t5 (.int .i64 0)).bind fun t6 => U.asBool t6
 (some (.int .i64 (-1)))
 (U.asAgg x1 fun us7 => if 2 = sizes (us7.take 2) then (us7[2]?).bind fun e8 => U.asVar false 1 e8 fun e9 => (E 322 [e9, t5]).bind fun t10 => (U.bin .lss t10 (.int .i64 0)).bind fun t11 => U.asBool t11
 (some (.int .i64 (-1)))
 (U.asAgg x1 fun us12 => if 3 = sizes (us12.take 3) then (us12[3]?).bind fun e13 => U.asVar false 1 e13 fun e14 => (E 321 [e14, t10]).bind fun t15 => (U.bin .lss t15 (.int .i64 0)).bind fun t16 => U.asBool t16
 (some (.int .i64 (-1)))
 (U.asAgg x1 fun us17 => if 4 = sizes (us17.take 4) then (us17[4]?).bind fun e18 => U.asVar false 1 e18 fun e19 => (E 320 [e19, t15]).bind fun t20 => (U.bin .lss t20 (.int .i64 0)).bind fun t21 => U.asBool t21
 (some (.int .i64 (-1)))
 (some t20) else none) else none) else none) else none := (h.is _ rfl).trans ((Qe rfl).trans (by kernel_rfl))
def f87_ac : AC :=
 (.seq (rg [oo 1 (.box false 1 (.t 0)),
  oo 2 (.alloc 2 (.agg [(.int .i64 0), (.int .i64 0), (.int .i64 0), (.int .i64 0), (.int .i64 0), (.int .i64 0), (.int .i64 0), (.nsl 2), (.nsl 2)]))])
 (.seq (rg [oo 4 (.loadN 9 9 (.t 1)),
  oo 3 (.alloc 3 (.agg [(.int .i64 0), (.int .i64 0), (.int .i64 0), (.int .i64 0), (.int .i64 0), (.int .i64 0), (.int .i64 0), (.nsl 2), (.nsl 2)])),
  ⟨none, .store 9 (.t 3) (.t 4), none⟩])
 (.seq (rg [oo 5 (.bslice 1 5 2 0 (.agg [(.int .i64 0), (.int .i64 0)]) []),
  oo 6 (.faddr 7 7 (.t 1)),
  oo 7 (.load false 1 (.t 6)),
  oo 8 (.append false 8 2 16 (.t 5) (.t 7)),
  oo 9 (.faddr 7 7 (.t 3)),
  ⟨none, .storeM 3000 1 (.t 9) (.t 8), none⟩])
 (.seq (rg [oo 10 (.bslice 1 10 2 0 (.agg [(.int .i64 0), (.int .i64 0)]) []),
  oo 11 (.faddr 8 8 (.t 1)),
  oo 12 (.load false 1 (.t 11)),
  oo 13 (.append false 13 2 16 (.t 10) (.t 12)),
  oo 14 (.faddr 8 8 (.t 3)),
  ⟨none, .storeM 3001 1 (.t 14) (.t 13), none⟩])
 (.seq (rg [oo 15 (.loadO (.agg [.int, .int, .int, .int, .int, .int, .int, (.sl 2), (.sl 2)]) (.t 3)),
  ⟨none, .storeM 3002 9 (.t 2) (.t 15), none⟩])
 .ret)))))
structure G_f87 (E : Env) : Prop where
  is : Is E 100212 1 f87_ac [(2, some (true, 9))]
theorem f87_E {E : Env} (h : G_f87 E) (a0 : U) : E 100212 [a0] =
 U.noTup a0 fun x1 => U.asVar true 9 x1 fun e2 => U.asAgg e2 fun us3 => (match us3 with
 | u4 :: us5 => ((match us5 with
 | u6 :: us7 => ((match us7 with
 | u8 :: us9 => ((match us9 with
 | u10 :: us11 => ((match us11 with
 | u12 :: us13 => ((match us13 with
 | u14 :: us15 => ((match us15 with
 | u16 :: us17 => ((match us17 with
 | u18 :: us19 => ((match us19 with
 | u20 :: us21 => ((match us21 with
 | [] => (if storable (.val (.agg [u4, u6, u8, u10, u12, u14, u16, u18, u20])) = true ∧ ((.agg [u4, u6, u8, u10, u12, u14, u16, u18, u20]) : U).size = 9 then U.asAgg x1 fun us22 => if 7 = sizes (us22.take 7) then (us22[7]?).bind fun e23 => U.asVar false 1 e23 fun e24 => (U.elems 2 e24).bind fun ys25 => if 2 = 2 ∧ 2 = 2 ∧ ((([] : List U)).length + (ys25 : List U).length) * 16 ≤ 140737488355328 then if 7 = sizes [u4, u6, u8, u10, u12, u14, u16] then if 7 = sizes [u4, u6, u8, u10, u12, u14, u16] then if u18.size = u18.size then if 7 = dsizes [.val u4, .val u6, .val u8, .val u10, .val u12, .val u14, .val u16] then if u18.size = 1 then U.asAgg x1 fun us26 => if 8 = sizes (us26.take 8) then (us26[8]?).bind fun e27 => U.asVar false 1 e27 fun e28 => (U.elems 2 e28).bind fun ys29 => if 2 = 2 ∧ 2 = 2 ∧ ((([] : List U)).length + (ys29 : List U).length) * 16 ≤ 140737488355328 then if 8 = dsizes [.val u4, .val u6, .val u8, .val u10, .val u12, .val u14, .val u16, .asl 2 (([] : List U) ++ ys25)] then if 8 = dsizes [.val u4, .val u6, .val u8, .val u10, .val u12, .val u14, .val u16, .asl 2 (([] : List U) ++ ys25)] then if u20.size = u20.size then if 8 = dsizes [.val u4, .val u6, .val u8, .val u10, .val u12, .val u14, .val u16, .asl 2 (([] : List U) ++ ys25)] then if u20.size = 1 then U.asInt u4 fun n30 => U.asInt u6 fun n31 => U.asInt u8 fun n32 => U.asInt u10 fun n33 => U.asInt u12 fun n34 => U.asInt u14 fun n35 => U.asInt u16 fun n36 => if 7 = dsizes [.val u4, .val u6, .val u8, .val u10, .val u12, .val u14, .val u16] then if 7 = dsizes [.val u4, .val u6, .val u8, .val u10, .val u12, .val u14, .val u16] then if 8 = dsizes [.val u4, .val u6, .val u8, .val u10, .val u12, .val u14, .val u16, .junk 1] then if 8 = dsizes [.val u4, .val u6, .val u8, .val u10, .val u12, .val u14, .val u16, .junk 1] then if U.flat.flats (([] : List U) ++ ys25) = true then if U.flat.flats (([] : List U) ++ ys29) = true then some (.agg [(.int .i64 n30), (.int .i64 n31), (.int .i64 n32), (.int .i64 n33), (.int .i64 n34), (.int .i64 n35), (.int .i64 n36), (.sl 2 (([] : List U) ++ ys25)), (.sl 2 (([] : List U) ++ ys29))]) else none else none else none else none else none else none else none else none else none else none else none else none else none else none else none else none else none else none else none else none else none)
 | _ => none))
 | [] => none))
 | [] => none))
 | [] => none))
 | [] => none))
 | [] => none))
 | [] => none))
 | [] => none))
 | [] => none))
 | [] => none) := (h.is _ rfl).trans ((Qt rfl).trans (by kernel_rfl))
def f84_ac : AC :=
 (.seq (rg [oo 2 (.mv (.c (.nsl 5)))])
 (.seq (rg [oo 3 (.bslice 1 3 5 0 (.agg [(.int .i64 0), (.int .i64 0), (.int .i64 0), (.int .i64 0), (.int .i64 0)]) []),
  oo 4 (.mv (.t 0)),
  oo 5 (.append false 5 5 40 (.t 3) (.t 4)),
  oo 2 (.mv (.t 5))])
 .ret))
structure G_f84 (E : Env) : Prop where
  is : Is E 100217 1 f84_ac [(2, none)]
theorem f84_E {E : Env} (h : G_f84 E) (a0 : U) : E 100217 [a0] =
 (U.elems 5 a0).bind fun ys1 => if 5 = 5 ∧ 5 = 5 ∧ ((([] : List U)).length + (ys1 : List U).length) * 40 ≤ 140737488355328 then if U.flat.flats (([] : List U) ++ ys1) = true then some (.sl 5 (([] : List U) ++ ys1)) else none else none := (h.is _ rfl).trans ((Qt rfl).trans (by kernel_rfl))
def f85_b0 : AC :=
 (.seq (.seq (rg [oo 6 (.mv (.t 4)),
  oo 7 (.faddr 0 0 (.t 1)),
  oo 8 (.load false 1 (.t 7)),
  oo 9 (.len false (.t 8)),
  oo 10 (.bin .lss (.t 6) (.t 9))])
 (.cond (.t 10) .skip (.exit 0)))
 (.seq (.block 1 (.regC 9 [20, 21] [oo 13 (.faddr 0 0 (.t 3)),
  oo 14 (.loadO (.sl 1) (.t 13)),
  oo 15 (.faddr 0 0 (.t 1)),
  oo 16 (.load false 1 (.t 15)),
  oo 17 (.mv (.t 4)),
  oo 18 (.iaddr 1 (.t 16) (.t 17)),
  oo 19 (.load false 1 (.t 18)),
  oo 20 (.callF 20 false [(.sl 5)] 217 [(.t 19)]),
  oo 21 (.bslice 2 21 1 1 (.nsl 5) [(0, (.t 20))]),
  oo 22 (.append true 22 1 24 (.t 14) (.t 21)),
  oo 23 (.faddr 0 0 (.t 3)),
  ⟨none, .storeE 1 (.t 23) (.t 22), none⟩]))
 (rg [oo 11 (.mv (.t 4)),
  oo 12 (.bin .add (.t 11) (ci 1)),
  oo 4 (.mv (.t 12))])))
def f85_r0 : AC :=
 (.seq (rg [oo 24 (.loadO (.agg [(.sl 1)]) (.t 3)),
  ⟨none, .storeM 3000 1 (.t 2) (.t 24), none⟩])
 .ret)
def f85_ac : AC :=
 (.seq (rg [oo 1 (.box false 1 (.t 0)),
  oo 2 (.alloc 2 (.agg [(.nsl 1)]))])
 (.seq (rg [oo 5 (.build [(.nsl 1)] []),
  oo 3 (.alloc 3 (.agg [(.nsl 1)])),
  ⟨none, .store 1 (.t 3) (.t 5), none⟩])
 (.seq (.seq (rg [oo 4 (.mv (ci 0))])
 (.block 0 (.loop ⟨[1, 2, 3, 4], [], [(1, false), (2, false), (3, false)]⟩ f85_b0)))
 f85_r0)))
noncomputable def f85_l0a (E : Env) (x4 : U) (b1 : U) : Option U := loopK (roundOf E ⟨[1, 2, 3, 4], [], [(1, false), (2, false), (3, false)]⟩ f85_b0 (blockK 0 (seqK (fun s => exec E f85_r0 s (finishF [(2, some (true, 1))])) (finishF [(2, some (true, 1))])))) ([.ptr 1 [], .ptr 2 [], .ptr 3 [], .val x4], [.box (.val b1), .box (.val (.agg [(.nsl 1)])), .box (.val (.agg [(.nsl 1)]))])
noncomputable def f85_l0b (E : Env) (x4 : U) (b1 : U) (b3 : List U) : Option U := loopK (roundOf E ⟨[1, 2, 3, 4], [], [(1, false), (2, false), (3, false)]⟩ f85_b0 (blockK 0 (seqK (fun s => exec E f85_r0 s (finishF [(2, some (true, 1))])) (finishF [(2, some (true, 1))])))) ([.ptr 1 [], .ptr 2 [], .ptr 3 [], .val x4], [.box (.val b1), .box (.val (.agg [(.nsl 1)])), .box (.agg [.own (.sl 1 b3)])])
theorem Qvh (E : Env) (x4 : U) (b1 : U) : f85_l0a E x4 b1 =
 U.asAgg b1 fun us2 => if 0 = sizes (us2.take 0) then (us2[0]?).bind fun e3 => U.asVar false 1 e3 fun e4 => (U.lenOf false e4).bind fun n5 => (U.bin .lss x4 (.int .i64 (n5 : Int))).bind fun t6 => U.asBool t6
 (U.asAgg b1 fun us7 => if 0 = sizes (us7.take 0) then (us7[0]?).bind fun e8 => U.asVar false 1 e8 fun e9 => U.asInt x4 fun n10 => U.elemAt 1 e9 n10 fun e11 => U.asVar false 1 e11 fun e12 => (E 100217 [e12]).bind fun t13 => U.noTup t13 fun x14 => U.asSlK 5 x14 fun us15 => if 1 = 1 ∧ ([(.sl 5 us15)] : List U).length * 24 ≤ 140737488355328 then (U.bin .add x4 (.int .i64 1)).bind fun t16 => f85_l0b E t16 b1 [(.sl 5 us15)] else none else none)
 (some (.agg [(.sl 1 [])])) else none := (Qf E _ _ _ _).trans (by kernel_rfl)
theorem Ql0 (E : Env) (x4 : U) (b1 : U) (b3 : List U) : f85_l0b E x4 b1 b3 =
 U.asAgg b1 fun us17 => if 0 = sizes (us17.take 0) then (us17[0]?).bind fun e18 => U.asVar false 1 e18 fun e19 => (U.lenOf false e19).bind fun n20 => (U.bin .lss x4 (.int .i64 (n20 : Int))).bind fun t21 => U.asBool t21
 (U.asAgg b1 fun us22 => if 0 = sizes (us22.take 0) then (us22[0]?).bind fun e23 => U.asVar false 1 e23 fun e24 => U.asInt x4 fun n25 => U.elemAt 1 e24 n25 fun e26 => U.asVar false 1 e26 fun e27 => (E 100217 [e27]).bind fun t28 => U.noTup t28 fun x29 => U.asSlK 5 x29 fun us30 => if ((b3).length + ([(.sl 5 us30)] : List U).length) * 24 ≤ 140737488355328 then (U.bin .add x4 (.int .i64 1)).bind fun t31 => f85_l0b E t31 b1 (b3 ++ ([(.sl 5 us30)] : List U)) else none else none)
 (some (.agg [(.sl 1 b3)])) else none := (Qf E _ _ _ _).trans (by kernel_rfl)
structure G_f85 (E : Env) : Prop where
  is : Is E 100211 1 f85_ac [(2, some (true, 1))]
  c_f84 : G_f84 E
theorem f85_E {E : Env} (h : G_f85 E) (a0 : U) : E 100211 [a0] =
 U.noTup a0 fun x1 => f85_l0a E (.int .i64 0) x1 := (h.is _ rfl).trans ((Qt rfl).trans (by kernel_rfl))
def f82_ac : AC :=
 (.seq (rg [oo 2 (.mv (.c (.nsl 2)))])
 (.seq (rg [oo 3 (.bslice 1 3 2 0 (.agg [(.int .i64 0), (.int .i64 0)]) []),
  oo 4 (.mv (.t 0)),
  oo 5 (.append false 5 2 16 (.t 3) (.t 4)),
  oo 2 (.mv (.t 5))])
 .ret))
structure G_f82 (E : Env) : Prop where
  is : Is E 100473 1 f82_ac [(2, none)]
theorem f82_E {E : Env} (h : G_f82 E) (a0 : U) : E 100473 [a0] =
 (U.elems 2 a0).bind fun ys1 => if 2 = 2 ∧ 2 = 2 ∧ ((([] : List U)).length + (ys1 : List U).length) * 16 ≤ 140737488355328 then if U.flat.flats (([] : List U) ++ ys1) = true then some (.sl 2 (([] : List U) ++ ys1)) else none else none := (h.is _ rfl).trans ((Qt rfl).trans (by kernel_rfl))
def f83_b0 : AC :=
 (.seq (.seq (rg [oo 21 (.mv (.t 4)),
  oo 22 (.faddr 2 2 (.t 1)),
  oo 23 (.load false 1 (.t 22)),
  oo 24 (.len false (.t 23)),
  oo 25 (.bin .lss (.t 21) (.t 24))])
 (.cond (.t 25) .skip (.exit 0)))
 (.seq (.block 1 (.seq (rg [oo 28 (.faddr 2 2 (.t 1)),
  oo 29 (.load false 1 (.t 28)),
  oo 30 (.mv (.t 4)),
  oo 31 (.iaddr 9 (.t 29) (.t 30)),
  oo 32 (.load true 9 (.t 31)),
  oo 33 (.callF 33 false [(.agg [.int, .int, .int, .int, .int, .int, .int, (.sl 2), (.sl 2)])] 212 [(.t 32)]),
  oo 5 (.alloc 5 (.agg [(.int .i64 0), (.int .i64 0), (.int .i64 0), (.int .i64 0), (.int .i64 0), (.int .i64 0), (.int .i64 0), (.nsl 2), (.nsl 2)])),
  ⟨none, .storeM 3001 9 (.t 5) (.t 33), none⟩])
 (rg [oo 34 (.faddr 2 2 (.t 3)),
  oo 35 (.loadO (.sl 9) (.t 34)),
  oo 36 (.loadO (.agg [.int, .int, .int, .int, .int, .int, .int, (.sl 2), (.sl 2)]) (.t 5)),
  oo 37 (.bslice 2 37 9 1 (.agg [(.int .i64 0), (.int .i64 0), (.int .i64 0), (.int .i64 0), (.int .i64 0), (.int .i64 0), (.int .i64 0), (.nsl 2), (.nsl 2)]) [(0, (.t 36))]),
  oo 38 (.append true 38 9 104 (.t 35) (.t 37)),
  oo 39 (.faddr 2 2 (.t 3)),
  ⟨none, .storeE 1 (.t 39) (.t 38), none⟩])))
 (rg [oo 26 (.mv (.t 4)),
  oo 27 (.bin .add (.t 26) (ci 1)),
  oo 4 (.mv (.t 27))])))
def f83_r0 : AC :=
 (.seq (rg [oo 40 (.loadO (.agg [.bool, (.agg [(.sl 1)]), (.sl 9), (.sl 2), (.sl 2), .int]) (.t 3)),
  ⟨none, .storeM 3002 6 (.t 2) (.t 40), none⟩])
 .ret)
def f83_r1 : AC :=
 (.seq (.seq (rg [oo 4 (.mv (ci 0))])
 (.block 0 (.loop ⟨[1, 2, 3, 4], [], [(1, false), (2, false), (3, false)]⟩ f83_b0)))
 f83_r0)
def f83_ac : AC :=
 (.seq (rg [oo 1 (.box false 1 (.t 0)),
  oo 2 (.alloc 2 (.agg [(.bool false), (.agg [(.nsl 1)]), (.nsl 9), (.nsl 2), (.nsl 2), (.int .i64 0)]))])
 (.seq (.regD 16 [3, 10, 13, 14, 17] [(4, 7), (7, 11), (8, 11), (4, 14), (7, 14), (11, 14)] [1, 2, 3, 20] [1, 2, 3, 10, 13, 17] [oo 6 (.faddr 0 0 (.t 1)),
  oo 7 (.load false 1 (.t 6)),
  oo 8 (.faddr 1 1 (.t 1)),
  oo 9 (.load true 1 (.t 8)),
  oo 10 (.callF 10 false [(.agg [(.sl 1)])] 211 [(.t 9)]),
  oo 11 (.faddr 3 3 (.t 1)),
  oo 12 (.load false 1 (.t 11)),
  oo 13 (.callF 13 false [(.sl 2)] 473 [(.t 12)]),
  oo 14 (.bslice 1 14 2 0 (.agg [(.int .i64 0), (.int .i64 0)]) []),
  oo 15 (.faddr 4 4 (.t 1)),
  oo 16 (.load false 1 (.t 15)),
  oo 17 (.append false 17 2 16 (.t 14) (.t 16)),
  oo 18 (.faddr 5 5 (.t 1)),
  oo 19 (.load false 1 (.t 18)),
  oo 20 (.buildL [(.bool false), (.agg [(.nsl 1)]), (.nsl 9), (.nsl 2), (.nsl 2), (.int .i64 0)] [(0, (.t 7)), (1, (.t 10)), (3, (.t 13)), (4, (.t 17)), (5, (.t 19))]),
  oo 3 (.alloc 3 (.agg [(.bool false), (.agg [(.nsl 1)]), (.nsl 9), (.nsl 2), (.nsl 2), (.int .i64 0)])),
  ⟨none, .storeM 3000 6 (.t 3) (.t 20), none⟩])
 f83_r1))
noncomputable def f83_l0a (E : Env) (x4 : U) (b1 : U) (b2_0 : U) (b2_1 : U) (b3_0 : U) (b3_1 : List U) (b3_2 : List U) (b3_3 : List U) (b3_4 : U) : Option U := loopK (roundOf E ⟨[1, 2, 3, 4], [], [(1, false), (2, false), (3, false)]⟩ f83_b0 (blockK 0 (seqK (fun s => exec E f83_r0 s (finishF [(2, some (true, 6))])) (finishF [(2, some (true, 6))])))) ([.ptr 1 [], .ptr 2 [], .ptr 3 [], .val x4], [.box (.val b1), .box (.val (.agg [b2_0, (.agg [(.nsl 1)]), (.nsl 9), (.nsl 2), (.nsl 2), b2_1])), .box (.agg [.val b3_0, .agg [.own (.sl 1 b3_1)], .val (.nsl 9), .own (.sl 2 b3_2), .asl 2 b3_3, .val b3_4])])
noncomputable def f83_l0b (E : Env) (x4 : U) (b1 : U) (b2_0 : U) (b2_1 : U) (b3_0 : U) (b3_1 : List U) (b3_2 : List U) (b3_3 : List U) (b3_4 : List U) (b3_5 : U) : Option U := loopK (roundOf E ⟨[1, 2, 3, 4], [], [(1, false), (2, false), (3, false)]⟩ f83_b0 (blockK 0 (seqK (fun s => exec E f83_r0 s (finishF [(2, some (true, 6))])) (finishF [(2, some (true, 6))])))) ([.ptr 1 [], .ptr 2 [], .ptr 3 [], .val x4], [.box (.val b1), .box (.val (.agg [b2_0, (.agg [(.nsl 1)]), (.nsl 9), (.nsl 2), (.nsl 2), b2_1])), .box (.agg [.val b3_0, .agg [.own (.sl 1 b3_1)], .own (.sl 9 b3_2), .own (.sl 2 b3_3), .asl 2 b3_4, .val b3_5])])
theorem Qvb (E : Env) (a0 : U) : exec E f83_ac (start [a0]) (finishF [(2, some (true, 6))]) =
 U.noTup a0 fun x1 => U.asAgg x1 fun us95 => if 0 = sizes (us95.take 0) then (us95[0]?).bind fun e96 => U.asVar false 1 e96 fun e97 => U.asAgg x1 fun us98 => if 1 = sizes (us98.take 1) then (us98[1]?).bind fun e99 => U.asVar true 1 e99 fun e100 => U.asAgg x1 fun us101 => if 3 = sizes (us101.take 3) then (us101[3]?).bind fun e102 => U.asVar false 1 e102 fun e103 => U.asAgg x1 fun us104 => if 4 = sizes (us104.take 4) then (us104[4]?).bind fun e105 => U.asVar false 1 e105 fun e106 => U.asAgg x1 fun us107 => if 5 = sizes (us107.take 5) then (us107[5]?).bind fun e108 => U.asVar false 1 e108 fun e109 => (E 100211 [e100]).bind fun t110 => U.noTup t110 fun x111 => U.asAgg x111 fun us112 => (match us112 with
 | u113 :: us114 => (U.asSlK 1 u113 fun us115 => (match us114 with
 | [] => ((E 100473 [e103]).bind fun t116 => U.noTup t116 fun x117 => U.asSlK 2 x117 fun us118 => (U.elems 2 e106).bind fun ys119 => if 2 = 2 ∧ 2 = 2 ∧ ((([] : List U)).length + (ys119 : List U).length) * 16 ≤ 140737488355328 then if partable (.val e97) = true ∧ e97.size = 1 then if partable (.val e109) = true ∧ e109.size = 1 then U.noTup e97 fun x120 => U.noTup e109 fun x121 => if (.agg [.val x120, .agg [.own (.sl 1 us115)], .val (.nsl 9), .own (.sl 2 us118), .asl 2 (([] : List U) ++ ys119), .val x121] : D).size = 6 then f83_l0a E (.int .i64 0) x1 (.bool false) (.int .i64 0) x120 us115 us118 (([] : List U) ++ ys119) x121 else none else none else none else none)
 | _ => none))
 | [] => none) else none else none else none else none else none :=
 by
  refine Eq.trans (b := U.noTup a0 fun x1 => ((U.asAgg x1 fun us2 => if 0 = sizes (us2.take 0) then (us2[0]?).bind fun e3 => U.asVar false 1 e3 fun e4 => U.asAgg x1 fun us5 => if 1 = sizes (us5.take 1) then (us5[1]?).bind fun e6 => U.asVar true 1 e6 fun e7 => U.asAgg x1 fun us8 => if 3 = sizes (us8.take 3) then (us8[3]?).bind fun e9 => U.asVar false 1 e9 fun e10 => U.asAgg x1 fun us11 => if 4 = sizes (us11.take 4) then (us11[4]?).bind fun e12 => U.asVar false 1 e12 fun e13 => U.asAgg x1 fun us14 => if 5 = sizes (us14.take 5) then (us14[5]?).bind fun e15 => U.asVar false 1 e15 fun e16 => meet ((E 100211 [e7]).bind fun t17 => U.noTup t17 fun x18 => U.asAgg x18 fun us19 => (uncons us19 fun u20 us21 => U.asSlK 1 u20 fun us22 => (unnil us21 (meet ((E 100473 [e10]).bind fun t23 => U.noTup t23 fun x24 => U.asSlK 2 x24 fun us25 => meet (meet ((U.elems 2 e13).bind fun ys26 => if 2 = 2 ∧ 2 = 2 ∧ ((([] : List U)).length + (ys26 : List U).length) * 16 ≤ 140737488355328 then meet (if partable (.val e4) = true ∧ e4.size = 1 then if partable (.val e16) = true ∧ e16.size = 1 then some ([.ptr 1 [], .ptr 2 [], .ptr 3 [], .agg [.val e4, .agg [.ref 10 [.fld 0 0] 1 none], .val (.nsl 9), .ref 13 [] 2 none, .ref 17 [] 2 none, .val e16]], [some (.box (.val x1)), some (.box (.val (.agg [(.bool false), (.agg [(.nsl 1)]), (.nsl 9), (.nsl 2), (.nsl 2), (.int .i64 0)]))), some (.box (.val (.agg [(.bool false), (.agg [(.nsl 1)]), (.nsl 9), (.nsl 2), (.nsl 2), (.int .i64 0)]))), some (.vir (.agg [.own (.sl 1 us22)])), some (.vir (.own (.sl 2 us25))), some (.vir (.asl 2 (([] : List U) ++ ys26)))]) else none else none) (if partable (.val e4) = true ∧ e4.size = 1 then if partable (.val e16) = true ∧ e16.size = 1 then some ([.ptr 1 [], .ptr 2 [], .ptr 3 [], .agg [.val e4, .agg [.ref 10 [.fld 0 0] 1 none], .val (.nsl 9), .ref 13 [] 2 none, .ref 17 [] 2 none, .val e16]], [some (.box (.val x1)), some (.box (.val (.agg [(.bool false), (.agg [(.nsl 1)]), (.nsl 9), (.nsl 2), (.nsl 2), (.int .i64 0)]))), some (.box (.val (.agg [(.bool false), (.agg [(.nsl 1)]), (.nsl 9), (.nsl 2), (.nsl 2), (.int .i64 0)]))), some (.vir (.agg [.own (.sl 1 us22)])), some (.vir (.own (.sl 2 us25))), some (.vir (.asl 2 (([] : List U) ++ ys26)))]) else none else none) else none) ((U.elems 2 e13).bind fun ys27 => if 2 = 2 ∧ 2 = 2 ∧ ((([] : List U)).length + (ys27 : List U).length) * 16 ≤ 140737488355328 then if partable (.val e4) = true ∧ e4.size = 1 then if partable (.val e16) = true ∧ e16.size = 1 then some ([.ptr 1 [], .ptr 2 [], .ptr 3 [], .agg [.val e4, .agg [.ref 10 [.fld 0 0] 1 none], .val (.nsl 9), .ref 13 [] 2 none, .ref 17 [] 2 none, .val e16]], [some (.box (.val x1)), some (.box (.val (.agg [(.bool false), (.agg [(.nsl 1)]), (.nsl 9), (.nsl 2), (.nsl 2), (.int .i64 0)]))), some (.box (.val (.agg [(.bool false), (.agg [(.nsl 1)]), (.nsl 9), (.nsl 2), (.nsl 2), (.int .i64 0)]))), some (.vir (.agg [.own (.sl 1 us22)])), some (.vir (.own (.sl 2 us25))), some (.vir (.asl 2 (([] : List U) ++ ys27)))]) else none else none else none)) ((U.elems 2 e13).bind fun ys28 => if 2 = 2 ∧ 2 = 2 ∧ ((([] : List U)).length + (ys28 : List U).length) * 16 ≤ 140737488355328 then if partable (.val e4) = true ∧ e4.size = 1 then if partable (.val e16) = true ∧ e16.size = 1 then some ([.ptr 1 [], .ptr 2 [], .ptr 3 [], .agg [.val e4, .agg [.ref 10 [.fld 0 0] 1 none], .val (.nsl 9), .ref 13 [] 2 none, .ref 17 [] 2 none, .val e16]], [some (.box (.val x1)), some (.box (.val (.agg [(.bool false), (.agg [(.nsl 1)]), (.nsl 9), (.nsl 2), (.nsl 2), (.int .i64 0)]))), some (.box (.val (.agg [(.bool false), (.agg [(.nsl 1)]), (.nsl 9), (.nsl 2), (.nsl 2), (.int .i64 0)]))), some (.vir (.agg [.own (.sl 1 us22)])), some (.vir (.own (.sl 2 us25))), some (.vir (.asl 2 (([] : List U) ++ ys28)))]) else none else none else none)) (meet (meet ((E 100473 [e10]).bind fun t29 => U.noTup t29 fun x30 => U.asSlK 2 x30 fun us31 => meet ((U.elems 2 e13).bind fun ys32 => if 2 = 2 ∧ 2 = 2 ∧ ((([] : List U)).length + (ys32 : List U).length) * 16 ≤ 140737488355328 then meet (if partable (.val e4) = true ∧ e4.size = 1 then if partable (.val e16) = true ∧ e16.size = 1 then some ([.ptr 1 [], .ptr 2 [], .ptr 3 [], .agg [.val e4, .agg [.ref 10 [.fld 0 0] 1 none], .val (.nsl 9), .ref 13 [] 2 none, .ref 17 [] 2 none, .val e16]], [some (.box (.val x1)), some (.box (.val (.agg [(.bool false), (.agg [(.nsl 1)]), (.nsl 9), (.nsl 2), (.nsl 2), (.int .i64 0)]))), some (.box (.val (.agg [(.bool false), (.agg [(.nsl 1)]), (.nsl 9), (.nsl 2), (.nsl 2), (.int .i64 0)]))), some (.vir (.agg [.own (.sl 1 us22)])), some (.vir (.own (.sl 2 us31))), some (.vir (.asl 2 (([] : List U) ++ ys32)))]) else none else none) (if partable (.val e4) = true ∧ e4.size = 1 then if partable (.val e16) = true ∧ e16.size = 1 then some ([.ptr 1 [], .ptr 2 [], .ptr 3 [], .agg [.val e4, .agg [.ref 10 [.fld 0 0] 1 none], .val (.nsl 9), .ref 13 [] 2 none, .ref 17 [] 2 none, .val e16]], [some (.box (.val x1)), some (.box (.val (.agg [(.bool false), (.agg [(.nsl 1)]), (.nsl 9), (.nsl 2), (.nsl 2), (.int .i64 0)]))), some (.box (.val (.agg [(.bool false), (.agg [(.nsl 1)]), (.nsl 9), (.nsl 2), (.nsl 2), (.int .i64 0)]))), some (.vir (.agg [.own (.sl 1 us22)])), some (.vir (.own (.sl 2 us31))), some (.vir (.asl 2 (([] : List U) ++ ys32)))]) else none else none) else none) ((U.elems 2 e13).bind fun ys33 => if 2 = 2 ∧ 2 = 2 ∧ ((([] : List U)).length + (ys33 : List U).length) * 16 ≤ 140737488355328 then if partable (.val e4) = true ∧ e4.size = 1 then if partable (.val e16) = true ∧ e16.size = 1 then some ([.ptr 1 [], .ptr 2 [], .ptr 3 [], .agg [.val e4, .agg [.ref 10 [.fld 0 0] 1 none], .val (.nsl 9), .ref 13 [] 2 none, .ref 17 [] 2 none, .val e16]], [some (.box (.val x1)), some (.box (.val (.agg [(.bool false), (.agg [(.nsl 1)]), (.nsl 9), (.nsl 2), (.nsl 2), (.int .i64 0)]))), some (.box (.val (.agg [(.bool false), (.agg [(.nsl 1)]), (.nsl 9), (.nsl 2), (.nsl 2), (.int .i64 0)]))), some (.vir (.agg [.own (.sl 1 us22)])), some (.vir (.own (.sl 2 us31))), some (.vir (.asl 2 (([] : List U) ++ ys33)))]) else none else none else none)) ((E 100473 [e10]).bind fun t34 => U.noTup t34 fun x35 => U.asSlK 2 x35 fun us36 => (U.elems 2 e13).bind fun ys37 => if 2 = 2 ∧ 2 = 2 ∧ ((([] : List U)).length + (ys37 : List U).length) * 16 ≤ 140737488355328 then if partable (.val e4) = true ∧ e4.size = 1 then if partable (.val e16) = true ∧ e16.size = 1 then some ([.ptr 1 [], .ptr 2 [], .ptr 3 [], .agg [.val e4, .agg [.ref 10 [.fld 0 0] 1 none], .val (.nsl 9), .ref 13 [] 2 none, .ref 17 [] 2 none, .val e16]], [some (.box (.val x1)), some (.box (.val (.agg [(.bool false), (.agg [(.nsl 1)]), (.nsl 9), (.nsl 2), (.nsl 2), (.int .i64 0)]))), some (.box (.val (.agg [(.bool false), (.agg [(.nsl 1)]), (.nsl 9), (.nsl 2), (.nsl 2), (.int .i64 0)]))), some (.vir (.agg [.own (.sl 1 us22)])), some (.vir (.own (.sl 2 us36))), some (.vir (.asl 2 (([] : List U) ++ ys37)))]) else none else none else none)) (meet ((E 100473 [e10]).bind fun t38 => U.noTup t38 fun x39 => U.asSlK 2 x39 fun us40 => (U.elems 2 e13).bind fun ys41 => if 2 = 2 ∧ 2 = 2 ∧ ((([] : List U)).length + (ys41 : List U).length) * 16 ≤ 140737488355328 then if partable (.val e4) = true ∧ e4.size = 1 then if partable (.val e16) = true ∧ e16.size = 1 then some ([.ptr 1 [], .ptr 2 [], .ptr 3 [], .agg [.val e4, .agg [.ref 10 [.fld 0 0] 1 none], .val (.nsl 9), .ref 13 [] 2 none, .ref 17 [] 2 none, .val e16]], [some (.box (.val x1)), some (.box (.val (.agg [(.bool false), (.agg [(.nsl 1)]), (.nsl 9), (.nsl 2), (.nsl 2), (.int .i64 0)]))), some (.box (.val (.agg [(.bool false), (.agg [(.nsl 1)]), (.nsl 9), (.nsl 2), (.nsl 2), (.int .i64 0)]))), some (.vir (.agg [.own (.sl 1 us22)])), some (.vir (.own (.sl 2 us40))), some (.vir (.asl 2 (([] : List U) ++ ys41)))]) else none else none else none) ((E 100473 [e10]).bind fun t42 => U.noTup t42 fun x43 => U.asSlK 2 x43 fun us44 => (U.elems 2 e13).bind fun ys45 => if 2 = 2 ∧ 2 = 2 ∧ ((([] : List U)).length + (ys45 : List U).length) * 16 ≤ 140737488355328 then if partable (.val e4) = true ∧ e4.size = 1 then if partable (.val e16) = true ∧ e16.size = 1 then some ([.ptr 1 [], .ptr 2 [], .ptr 3 [], .agg [.val e4, .agg [.ref 10 [.fld 0 0] 1 none], .val (.nsl 9), .ref 13 [] 2 none, .ref 17 [] 2 none, .val e16]], [some (.box (.val x1)), some (.box (.val (.agg [(.bool false), (.agg [(.nsl 1)]), (.nsl 9), (.nsl 2), (.nsl 2), (.int .i64 0)]))), some (.box (.val (.agg [(.bool false), (.agg [(.nsl 1)]), (.nsl 9), (.nsl 2), (.nsl 2), (.int .i64 0)]))), some (.vir (.agg [.own (.sl 1 us22)])), some (.vir (.own (.sl 2 us44))), some (.vir (.asl 2 (([] : List U) ++ ys45)))]) else none else none else none))))))) (meet (meet ((E 100211 [e7]).bind fun t46 => U.noTup t46 fun x47 => U.asAgg x47 fun us48 => (uncons us48 fun u49 us50 => U.asSlK 1 u49 fun us51 => (unnil us50 (meet ((E 100473 [e10]).bind fun t52 => U.noTup t52 fun x53 => U.asSlK 2 x53 fun us54 => meet ((U.elems 2 e13).bind fun ys55 => if 2 = 2 ∧ 2 = 2 ∧ ((([] : List U)).length + (ys55 : List U).length) * 16 ≤ 140737488355328 then meet (if partable (.val e4) = true ∧ e4.size = 1 then if partable (.val e16) = true ∧ e16.size = 1 then some ([.ptr 1 [], .ptr 2 [], .ptr 3 [], .agg [.val e4, .agg [.ref 10 [.fld 0 0] 1 none], .val (.nsl 9), .ref 13 [] 2 none, .ref 17 [] 2 none, .val e16]], [some (.box (.val x1)), some (.box (.val (.agg [(.bool false), (.agg [(.nsl 1)]), (.nsl 9), (.nsl 2), (.nsl 2), (.int .i64 0)]))), some (.box (.val (.agg [(.bool false), (.agg [(.nsl 1)]), (.nsl 9), (.nsl 2), (.nsl 2), (.int .i64 0)]))), some (.vir (.agg [.own (.sl 1 us51)])), some (.vir (.own (.sl 2 us54))), some (.vir (.asl 2 (([] : List U) ++ ys55)))]) else none else none) (if partable (.val e4) = true ∧ e4.size = 1 then if partable (.val e16) = true ∧ e16.size = 1 then some ([.ptr 1 [], .ptr 2 [], .ptr 3 [], .agg [.val e4, .agg [.ref 10 [.fld 0 0] 1 none], .val (.nsl 9), .ref 13 [] 2 none, .ref 17 [] 2 none, .val e16]], [some (.box (.val x1)), some (.box (.val (.agg [(.bool false), (.agg [(.nsl 1)]), (.nsl 9), (.nsl 2), (.nsl 2), (.int .i64 0)]))), some (.box (.val (.agg [(.bool false), (.agg [(.nsl 1)]), (.nsl 9), (.nsl 2), (.nsl 2), (.int .i64 0)]))), some (.vir (.agg [.own (.sl 1 us51)])), some (.vir (.own (.sl 2 us54))), some (.vir (.asl 2 (([] : List U) ++ ys55)))]) else none else none) else none) ((U.elems 2 e13).bind fun ys56 => if 2 = 2 ∧ 2 = 2 ∧ ((([] : List U)).length + (ys56 : List U).length) * 16 ≤ 140737488355328 then if partable (.val e4) = true ∧ e4.size = 1 then if partable (.val e16) = true ∧ e16.size = 1 then some ([.ptr 1 [], .ptr 2 [], .ptr 3 [], .agg [.val e4, .agg [.ref 10 [.fld 0 0] 1 none], .val (.nsl 9), .ref 13 [] 2 none, .ref 17 [] 2 none, .val e16]], [some (.box (.val x1)), some (.box (.val (.agg [(.bool false), (.agg [(.nsl 1)]), (.nsl 9), (.nsl 2), (.nsl 2), (.int .i64 0)]))), some (.box (.val (.agg [(.bool false), (.agg [(.nsl 1)]), (.nsl 9), (.nsl 2), (.nsl 2), (.int .i64 0)]))), some (.vir (.agg [.own (.sl 1 us51)])), some (.vir (.own (.sl 2 us54))), some (.vir (.asl 2 (([] : List U) ++ ys56)))]) else none else none else none)) ((E 100473 [e10]).bind fun t57 => U.noTup t57 fun x58 => U.asSlK 2 x58 fun us59 => (U.elems 2 e13).bind fun ys60 => if 2 = 2 ∧ 2 = 2 ∧ ((([] : List U)).length + (ys60 : List U).length) * 16 ≤ 140737488355328 then if partable (.val e4) = true ∧ e4.size = 1 then if partable (.val e16) = true ∧ e16.size = 1 then some ([.ptr 1 [], .ptr 2 [], .ptr 3 [], .agg [.val e4, .agg [.ref 10 [.fld 0 0] 1 none], .val (.nsl 9), .ref 13 [] 2 none, .ref 17 [] 2 none, .val e16]], [some (.box (.val x1)), some (.box (.val (.agg [(.bool false), (.agg [(.nsl 1)]), (.nsl 9), (.nsl 2), (.nsl 2), (.int .i64 0)]))), some (.box (.val (.agg [(.bool false), (.agg [(.nsl 1)]), (.nsl 9), (.nsl 2), (.nsl 2), (.int .i64 0)]))), some (.vir (.agg [.own (.sl 1 us51)])), some (.vir (.own (.sl 2 us59))), some (.vir (.asl 2 (([] : List U) ++ ys60)))]) else none else none else none))))) ((E 100211 [e7]).bind fun t61 => U.noTup t61 fun x62 => U.asAgg x62 fun us63 => (uncons us63 fun u64 us65 => U.asSlK 1 u64 fun us66 => (unnil us65 ((E 100473 [e10]).bind fun t67 => U.noTup t67 fun x68 => U.asSlK 2 x68 fun us69 => (U.elems 2 e13).bind fun ys70 => if 2 = 2 ∧ 2 = 2 ∧ ((([] : List U)).length + (ys70 : List U).length) * 16 ≤ 140737488355328 then if partable (.val e4) = true ∧ e4.size = 1 then if partable (.val e16) = true ∧ e16.size = 1 then some ([.ptr 1 [], .ptr 2 [], .ptr 3 [], .agg [.val e4, .agg [.ref 10 [.fld 0 0] 1 none], .val (.nsl 9), .ref 13 [] 2 none, .ref 17 [] 2 none, .val e16]], [some (.box (.val x1)), some (.box (.val (.agg [(.bool false), (.agg [(.nsl 1)]), (.nsl 9), (.nsl 2), (.nsl 2), (.int .i64 0)]))), some (.box (.val (.agg [(.bool false), (.agg [(.nsl 1)]), (.nsl 9), (.nsl 2), (.nsl 2), (.int .i64 0)]))), some (.vir (.agg [.own (.sl 1 us66)])), some (.vir (.own (.sl 2 us69))), some (.vir (.asl 2 (([] : List U) ++ ys70)))]) else none else none else none))))) (meet ((E 100211 [e7]).bind fun t71 => U.noTup t71 fun x72 => U.asAgg x72 fun us73 => (uncons us73 fun u74 us75 => U.asSlK 1 u74 fun us76 => (unnil us75 (meet ((E 100473 [e10]).bind fun t77 => U.noTup t77 fun x78 => U.asSlK 2 x78 fun us79 => (U.elems 2 e13).bind fun ys80 => if 2 = 2 ∧ 2 = 2 ∧ ((([] : List U)).length + (ys80 : List U).length) * 16 ≤ 140737488355328 then if partable (.val e4) = true ∧ e4.size = 1 then if partable (.val e16) = true ∧ e16.size = 1 then some ([.ptr 1 [], .ptr 2 [], .ptr 3 [], .agg [.val e4, .agg [.ref 10 [.fld 0 0] 1 none], .val (.nsl 9), .ref 13 [] 2 none, .ref 17 [] 2 none, .val e16]], [some (.box (.val x1)), some (.box (.val (.agg [(.bool false), (.agg [(.nsl 1)]), (.nsl 9), (.nsl 2), (.nsl 2), (.int .i64 0)]))), some (.box (.val (.agg [(.bool false), (.agg [(.nsl 1)]), (.nsl 9), (.nsl 2), (.nsl 2), (.int .i64 0)]))), some (.vir (.agg [.own (.sl 1 us76)])), some (.vir (.own (.sl 2 us79))), some (.vir (.asl 2 (([] : List U) ++ ys80)))]) else none else none else none) ((E 100473 [e10]).bind fun t81 => U.noTup t81 fun x82 => U.asSlK 2 x82 fun us83 => (U.elems 2 e13).bind fun ys84 => if 2 = 2 ∧ 2 = 2 ∧ ((([] : List U)).length + (ys84 : List U).length) * 16 ≤ 140737488355328 then if partable (.val e4) = true ∧ e4.size = 1 then if partable (.val e16) = true ∧ e16.size = 1 then some ([.ptr 1 [], .ptr 2 [], .ptr 3 [], .agg [.val e4, .agg [.ref 10 [.fld 0 0] 1 none], .val (.nsl 9), .ref 13 [] 2 none, .ref 17 [] 2 none, .val e16]], [some (.box (.val x1)), some (.box (.val (.agg [(.bool false), (.agg [(.nsl 1)]), (.nsl 9), (.nsl 2), (.nsl 2), (.int .i64 0)]))), some (.box (.val (.agg [(.bool false), (.agg [(.nsl 1)]), (.nsl 9), (.nsl 2), (.nsl 2), (.int .i64 0)]))), some (.vir (.agg [.own (.sl 1 us76)])), some (.vir (.own (.sl 2 us83))), some (.vir (.asl 2 (([] : List U) ++ ys84)))]) else none else none else none))))) ((E 100211 [e7]).bind fun t85 => U.noTup t85 fun x86 => U.asAgg x86 fun us87 => (uncons us87 fun u88 us89 => U.asSlK 1 u88 fun us90 => (unnil us89 ((E 100473 [e10]).bind fun t91 => U.noTup t91 fun x92 => U.asSlK 2 x92 fun us93 => (U.elems 2 e13).bind fun ys94 => if 2 = 2 ∧ 2 = 2 ∧ ((([] : List U)).length + (ys94 : List U).length) * 16 ≤ 140737488355328 then if partable (.val e4) = true ∧ e4.size = 1 then if partable (.val e16) = true ∧ e16.size = 1 then some ([.ptr 1 [], .ptr 2 [], .ptr 3 [], .agg [.val e4, .agg [.ref 10 [.fld 0 0] 1 none], .val (.nsl 9), .ref 13 [] 2 none, .ref 17 [] 2 none, .val e16]], [some (.box (.val x1)), some (.box (.val (.agg [(.bool false), (.agg [(.nsl 1)]), (.nsl 9), (.nsl 2), (.nsl 2), (.int .i64 0)]))), some (.box (.val (.agg [(.bool false), (.agg [(.nsl 1)]), (.nsl 9), (.nsl 2), (.nsl 2), (.int .i64 0)]))), some (.vir (.agg [.own (.sl 1 us90)])), some (.vir (.own (.sl 2 us93))), some (.vir (.asl 2 (([] : List U) ++ ys94)))]) else none else none else none)))))) else none else none else none else none else none).bind fun p => execOps false E [⟨none, .storeM 3000 6 (.t 3) (.t 20), none⟩] (unpackS [1, 2, 3, 20] [1, 2, 3, 10, 13, 17] p) ((seqK (fun s => exec E f83_r1 s (finishF [(2, some (true, 6))])) (finishF [(2, some (true, 6))])) .normal))) (by kernel_rfl) ?_
  simp only [Qmy, Qaaj, Qaak, Qm4, Qdl, Qfr, Qeb, Qbf, Qct, Qpz, Qpy, Qwd, Option.bind_assoc, Option.bind_some]
  kernel_rfl
theorem Qvd (E : Env) (x4 : U) (b1 : U) (b2_0 : U) (b2_1 : U) (b3_0 : U) (b3_1 : List U) (b3_2 : List U) (b3_3 : List U) (b3_4 : U) : f83_l0a E x4 b1 b2_0 b2_1 b3_0 b3_1 b3_2 b3_3 b3_4 =
 U.asAgg b1 fun us122 => if 2 = sizes (us122.take 2) then (us122[2]?).bind fun e123 => U.asVar false 1 e123 fun e124 => (U.lenOf false e124).bind fun n125 => (U.bin .lss x4 (.int .i64 (n125 : Int))).bind fun t126 => U.asBool t126
 (U.asAgg b1 fun us127 => if 2 = sizes (us127.take 2) then (us127[2]?).bind fun e128 => U.asVar false 1 e128 fun e129 => U.asInt x4 fun n130 => U.elemAt 9 e129 n130 fun e131 => U.asVar true 9 e131 fun e132 => (E 100212 [e132]).bind fun t133 => U.noTup t133 fun x134 => U.asAgg x134 fun us135 => (match us135 with
 | u136 :: us137 => (U.asInt u136 fun n138 => (match us137 with
 | u139 :: us140 => (U.asInt u139 fun n141 => (match us140 with
 | u142 :: us143 => (U.asInt u142 fun n144 => (match us143 with
 | u145 :: us146 => (U.asInt u145 fun n147 => (match us146 with
 | u148 :: us149 => (U.asInt u148 fun n150 => (match us149 with
 | u151 :: us152 => (U.asInt u151 fun n153 => (match us152 with
 | u154 :: us155 => (U.asInt u154 fun n156 => (match us155 with
 | u157 :: us158 => (U.asSlK 2 u157 fun us159 => (match us158 with
 | u160 :: us161 => (U.asSlK 2 u160 fun us162 => (match us161 with
 | [] => (if 2 = dsizes [.val b3_0, .agg [.own (.sl 1 b3_1)]] then if 9 = 9 ∧ ([(.agg [(.int .i64 n138), (.int .i64 n141), (.int .i64 n144), (.int .i64 n147), (.int .i64 n150), (.int .i64 n153), (.int .i64 n156), (.sl 2 us159), (.sl 2 us162)])] : List U).length * 104 ≤ 140737488355328 then if 2 = dsizes [.val b3_0, .agg [.own (.sl 1 b3_1)]] then (U.bin .add x4 (.int .i64 1)).bind fun t163 => f83_l0b E t163 b1 b2_0 b2_1 b3_0 b3_1 [(.agg [(.int .i64 n138), (.int .i64 n141), (.int .i64 n144), (.int .i64 n147), (.int .i64 n150), (.int .i64 n153), (.int .i64 n156), (.sl 2 us159), (.sl 2 us162)])] b3_2 b3_3 b3_4 else none else none else none)
 | _ => none))
 | [] => none))
 | [] => none))
 | [] => none))
 | [] => none))
 | [] => none))
 | [] => none))
 | [] => none))
 | [] => none))
 | [] => none) else none)
 (U.asB b3_0 fun b164 => U.asInt b3_4 fun n165 => if ((.agg [b2_0, (.agg [(.nsl 1)]), (.nsl 9), (.nsl 2), (.nsl 2), b2_1]) : U).size = ((.agg [b2_0, (.agg [(.nsl 1)]), (.nsl 9), (.nsl 2), (.nsl 2), b2_1]) : U).size then if 1 = dsizes [.val b3_0] then if 1 = dsizes [.val b3_0] then if 3 = dsizes [.val b3_0, .agg [.junk 1], .val (.nsl 9)] then if 3 = dsizes [.val b3_0, .agg [.junk 1], .val (.nsl 9)] then if 4 = dsizes [.val b3_0, .agg [.junk 1], .val (.nsl 9), .junk 1] then if 4 = dsizes [.val b3_0, .agg [.junk 1], .val (.nsl 9), .junk 1] then if ((.agg [b2_0, (.agg [(.nsl 1)]), (.nsl 9), (.nsl 2), (.nsl 2), b2_1]) : U).size = 6 then if U.flat.flats b3_3 = true then some (.agg [(.bool b164), (.agg [(.sl 1 b3_1)]), (.sl 9 []), (.sl 2 b3_2), (.sl 2 b3_3), (.int .i64 n165)]) else none else none else none else none else none else none else none else none else none) else none := (Qf E _ _ _ _).trans (by kernel_rfl)
theorem Qlx (E : Env) (x4 : U) (b1 : U) (b2_0 : U) (b2_1 : U) (b3_0 : U) (b3_1 : List U) (b3_2 : List U) (b3_3 : List U) (b3_4 : List U) (b3_5 : U) : f83_l0b E x4 b1 b2_0 b2_1 b3_0 b3_1 b3_2 b3_3 b3_4 b3_5 =
 U.asAgg b1 fun us166 => if 2 = sizes (us166.take 2) then (us166[2]?).bind fun e167 => U.asVar false 1 e167 fun e168 => (U.lenOf false e168).bind fun n169 => (U.bin .lss x4 (.int .i64 (n169 : Int))).bind fun t170 => U.asBool t170
 (U.asAgg b1 fun us171 => if 2 = sizes (us171.take 2) then (us171[2]?).bind fun e172 => U.asVar false 1 e172 fun e173 => U.asInt x4 fun n174 => U.elemAt 9 e173 n174 fun e175 => U.asVar true 9 e175 fun e176 => (E 100212 [e176]).bind fun t177 => U.noTup t177 fun x178 => U.asAgg x178 fun us179 => (match us179 with
 | u180 :: us181 => (U.asInt u180 fun n182 => (match us181 with
 | u183 :: us184 => (U.asInt u183 fun n185 => (match us184 with
 | u186 :: us187 => (U.asInt u186 fun n188 => (match us187 with
 | u189 :: us190 => (U.asInt u189 fun n191 => (match us190 with
 | u192 :: us193 => (U.asInt u192 fun n194 => (match us193 with
 | u195 :: us196 => (U.asInt u195 fun n197 => (match us196 with
 | u198 :: us199 => (U.asInt u198 fun n200 => (match us199 with
 | u201 :: us202 => (U.asSlK 2 u201 fun us203 => (match us202 with
 | u204 :: us205 => (U.asSlK 2 u204 fun us206 => (match us205 with
 | [] => (if 2 = dsizes [.val b3_0, .agg [.own (.sl 1 b3_1)]] then if 2 = dsizes [.val b3_0, .agg [.own (.sl 1 b3_1)]] then if 2 = dsizes [.val b3_0, .agg [.own (.sl 1 b3_1)]] then if ((b3_2).length + ([(.agg [(.int .i64 n182), (.int .i64 n185), (.int .i64 n188), (.int .i64 n191), (.int .i64 n194), (.int .i64 n197), (.int .i64 n200), (.sl 2 us203), (.sl 2 us206)])] : List U).length) * 104 ≤ 140737488355328 then if 2 = dsizes [.val b3_0, .agg [.own (.sl 1 b3_1)]] then (U.bin .add x4 (.int .i64 1)).bind fun t207 => f83_l0b E t207 b1 b2_0 b2_1 b3_0 b3_1 (b3_2 ++ ([(.agg [(.int .i64 n182), (.int .i64 n185), (.int .i64 n188), (.int .i64 n191), (.int .i64 n194), (.int .i64 n197), (.int .i64 n200), (.sl 2 us203), (.sl 2 us206)])] : List U)) b3_3 b3_4 b3_5 else none else none else none else none else none)
 | _ => none))
 | [] => none))
 | [] => none))
 | [] => none))
 | [] => none))
 | [] => none))
 | [] => none))
 | [] => none))
 | [] => none))
 | [] => none) else none)
 (U.asB b3_0 fun b208 => U.asInt b3_5 fun n209 => if ((.agg [b2_0, (.agg [(.nsl 1)]), (.nsl 9), (.nsl 2), (.nsl 2), b2_1]) : U).size = ((.agg [b2_0, (.agg [(.nsl 1)]), (.nsl 9), (.nsl 2), (.nsl 2), b2_1]) : U).size then if 1 = dsizes [.val b3_0] then if 1 = dsizes [.val b3_0] then if 2 = dsizes [.val b3_0, .agg [.junk 1]] then if 2 = dsizes [.val b3_0, .agg [.junk 1]] then if 3 = dsizes [.val b3_0, .agg [.junk 1], .junk 1] then if 3 = dsizes [.val b3_0, .agg [.junk 1], .junk 1] then if 4 = dsizes [.val b3_0, .agg [.junk 1], .junk 1, .junk 1] then if 4 = dsizes [.val b3_0, .agg [.junk 1], .junk 1, .junk 1] then if ((.agg [b2_0, (.agg [(.nsl 1)]), (.nsl 9), (.nsl 2), (.nsl 2), b2_1]) : U).size = 6 then if U.flat.flats b3_4 = true then some (.agg [(.bool b208), (.agg [(.sl 1 b3_1)]), (.sl 9 b3_2), (.sl 2 b3_3), (.sl 2 b3_4), (.int .i64 n209)]) else none else none else none else none else none else none else none else none else none else none else none) else none := (Qf E _ _ _ _).trans (by kernel_rfl)
structure G_f83 (E : Env) : Prop where
  is : Is E 100344 1 f83_ac [(2, some (true, 6))]
  c_f87 : G_f87 E
  c_f85 : G_f85 E
  c_f82 : G_f82 E
theorem f83_E {E : Env} (h : G_f83 E) (a0 : U) : E 100344 [a0] =
 U.noTup a0 fun x1 => U.asAgg x1 fun us95 => if 0 = sizes (us95.take 0) then (us95[0]?).bind fun e96 => U.asVar false 1 e96 fun e97 => U.asAgg x1 fun us98 => if 1 = sizes (us98.take 1) then (us98[1]?).bind fun e99 => U.asVar true 1 e99 fun e100 => U.asAgg x1 fun us101 => if 3 = sizes (us101.take 3) then (us101[3]?).bind fun e102 => U.asVar false 1 e102 fun e103 => U.asAgg x1 fun us104 => if 4 = sizes (us104.take 4) then (us104[4]?).bind fun e105 => U.asVar false 1 e105 fun e106 => U.asAgg x1 fun us107 => if 5 = sizes (us107.take 5) then (us107[5]?).bind fun e108 => U.asVar false 1 e108 fun e109 => (E 100211 [e100]).bind fun t110 => U.noTup t110 fun x111 => U.asAgg x111 fun us112 => (match us112 with
 | u113 :: us114 => (U.asSlK 1 u113 fun us115 => (match us114 with
 | [] => ((E 100473 [e103]).bind fun t116 => U.noTup t116 fun x117 => U.asSlK 2 x117 fun us118 => (U.elems 2 e106).bind fun ys119 => if 2 = 2 ∧ 2 = 2 ∧ ((([] : List U)).length + (ys119 : List U).length) * 16 ≤ 140737488355328 then if partable (.val e97) = true ∧ e97.size = 1 then if partable (.val e109) = true ∧ e109.size = 1 then U.noTup e97 fun x120 => U.noTup e109 fun x121 => if (.agg [.val x120, .agg [.own (.sl 1 us115)], .val (.nsl 9), .own (.sl 2 us118), .asl 2 (([] : List U) ++ ys119), .val x121] : D).size = 6 then f83_l0a E (.int .i64 0) x1 (.bool false) (.int .i64 0) x120 us115 us118 (([] : List U) ++ ys119) x121 else none else none else none else none)
 | _ => none))
 | [] => none) else none else none else none else none else none := (h.is _ rfl).trans ((Qt rfl).trans (Qvb E a0))
end Go.Proofs.Ytboenehajoaahaa.Am
