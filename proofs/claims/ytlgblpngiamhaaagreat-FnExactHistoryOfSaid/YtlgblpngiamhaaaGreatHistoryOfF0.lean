import Derived.KernelRfl
import Derived.Test.YtlgblpngiamhaaaGreatAmW
import Derived.Test.YtlgblpngiamhaaaGreatAmBd
namespace Go.Proofs.YtlgblpngiamhaaaGreat.Am
open Go
set_option linter.unusedVariables false
set_option maxRecDepth 100000
def f43_ac:AC :=
 (.seq (rg [oo 2 (.box false 2 (.t 0)),
 oo 3 (.box false 3 (.t 1)),
 oo 4 (.mv (.c (.bool false)))])
 (.seq (.seq (rg [oo 5 (.faddr 0 0 (.t 2)),
 oo 6 (.load false 1 (.t 5)),
 oo 7 (.faddr 0 0 (.t 3)),
 oo 8 (.load false 1 (.t 7)),
 oo 9 (.bin .neq (.t 6) (.t 8))])
 (.cond (.t 9) (.seq (rg [oo 4 (.mv (.c (.bool false)))])
 .ret) .skip))
 (.seq (.seq (rg [oo 10 (.faddr 1 1 (.t 2)),
 oo 11 (.load false 1 (.t 10)),
 oo 12 (.faddr 1 1 (.t 3)),
 oo 13 (.load false 1 (.t 12)),
 oo 14 (.bin .neq (.t 11) (.t 13))])
 (.cond (.t 14) (.seq (rg [oo 4 (.mv (.c (.bool false)))])
 .ret) .skip))
 (.seq (rg [oo 4 (.mv (.c (.bool true)))])
 .ret))))
structure G_f43 (E:Env):Prop where
 is:Is E 35 2 f43_ac [(4,none)]
theorem f43_E {E:Env} (h:G_f43 E) (a0 a1:U):E 35 [a0,a1] =
 U.noTup a0 fun x1=>U.noTup a1 fun x2=>U.asAgg x1 fun us3=>if 0 = sizes (us3.take 0) then (us3[0]?).bind fun e4=>U.asVar false 1 e4 fun e5=>U.asAgg x2 fun us6=>if 0 = sizes (us6.take 0) then (us6[0]?).bind fun e7=>U.asVar false 1 e7 fun e8=>(U.bin .neq e5 e8).bind fun t9=>U.asBool t9
 (some (.bool false))
 (U.asAgg x1 fun us10=>if 1 = sizes (us10.take 1) then (us10[1]?).bind fun e11=>U.asVar false 1 e11 fun e12=>U.asAgg x2 fun us13=>if 1 = sizes (us13.take 1) then (us13[1]?).bind fun e14=>U.asVar false 1 e14 fun e15=>(U.bin .neq e12 e15).bind fun t16=>U.asBool t16
 (some (.bool false))
 (some (.bool true)) else none else none) else none else none:=(h.is _ rfl).trans ((Qa rfl).trans (by kernel_rfl))
def f44_b0:AC :=
 (.seq (.seq (rg [oo 11 (.mv (.t 5)),
 oo 12 (.mv (.t 0)),
 oo 13 (.len false (.t 12)),
 oo 14 (.bin .lss (.t 11) (.t 13))])
 (.cond (.t 14) .skip (.exit 0)))
 (.seq (.block 1 (.seq (.region 10 [oo 17 (.mv (.t 0)),
 oo 18 (.mv (.t 5)),
 oo 19 (.iaddr 2 (.t 17) (.t 18)),
 oo 20 (.load true 2 (.t 19)),
 oo 21 (.mv (.t 1)),
 oo 22 (.mv (.t 5)),
 oo 23 (.iaddr 2 (.t 21) (.t 22)),
 oo 24 (.load true 2 (.t 23)),
 oo 25 (.call false 35 [(.t 20),(.t 24)]),
 oo 26 (.un .not (.t 25))])
 (.cond (.t 26) (.seq (rg [oo 4 (.mv (.c (.bool false)))])
 .ret) .skip)))
 (rg [oo 15 (.mv (.t 5)),
 oo 16 (.bin .add (.t 15) (ci 1)),
 oo 5 (.mv (.t 16))])))
def f44_r0:AC :=
 (.seq (rg [oo 4 (.mv (.c (.bool true)))])
 .ret)
def f44_ac:AC :=
 (.seq (rg [oo 4 (.mv (.c (.bool false)))])
 (.seq (.seq (rg [oo 6 (.mv (.t 0)),
 oo 7 (.len false (.t 6)),
 oo 8 (.mv (.t 1)),
 oo 9 (.len false (.t 8)),
 oo 10 (.bin .neq (.t 7) (.t 9))])
 (.cond (.t 10) (.seq (rg [oo 4 (.mv (.c (.bool false)))])
 .ret) .skip))
 (.seq (.seq (rg [oo 5 (.mv (ci 0))])
 (.block 0 (.loop ⟨[0,1,5],[],[]⟩ f44_b0)))
 f44_r0)))
noncomputable def f44_l0 (E:Env) (x0:U) (x1:U) (x5:U):Option U:=loopK (roundOf E ⟨[0,1,5],[],[]⟩ f44_b0 (blockK 0 (seqK (fun s=>exec E f44_r0 s (finish [(4,none)])) (finish [(4,none)])))) ([.val x0,.val x1,.val x5],[])
theorem Qlv (E:Env) (x0:U) (x1:U) (x5:U):f44_l0 E x0 x1 x5 =
 (U.lenOf false x0).bind fun n4=>(U.bin .lss x5 (.int .i64 (n4:Int))).bind fun t5=>U.asBool t5
 (U.asInt x5 fun n6=>U.elemAt 2 x0 n6 fun e7=>U.asVar true 2 e7 fun e8=>U.asInt x5 fun n9=>U.elemAt 2 x1 n9 fun e10=>U.asVar true 2 e10 fun e11=>(E 35 [e8,e11]).bind fun t12=>(U.un .not t12).bind fun t13=>U.asBool t13
 (some (.bool false))
 ((U.bin .add x5 (.int .i64 1)).bind fun t14=>f44_l0 E x0 x1 t14))
 (some (.bool true)):=(Qf E _ _ _ _).trans (by kernel_rfl)
structure G_f44 (E:Env):Prop where
 is:Is E 34 2 f44_ac [(4,none)]
 c_f43:G_f43 E
theorem f44_E {E:Env} (h:G_f44 E) (a0 a1:U):E 34 [a0,a1] =
 (U.lenOf false a0).bind fun n1=>(U.lenOf false a1).bind fun n2=>(U.bin .neq (.int .i64 (n1:Int)) (.int .i64 (n2:Int))).bind fun t3=>U.asBool t3
 (some (.bool false))
 (f44_l0 E a0 a1 (.int .i64 0)):=(h.is _ rfl).trans ((Qa rfl).trans (by kernel_rfl))
def f53_ac:AC :=
 (.seq (rg [oo 2 (.box false 2 (.t 0)),
 oo 3 (.box false 3 (.t 1)),
 oo 4 (.mv (.c (.bool false)))])
 (.seq (.seq (rg [oo 5 (.faddr 0 0 (.t 2)),
 oo 6 (.load false 1 (.t 5)),
 oo 7 (.faddr 0 0 (.t 3)),
 oo 8 (.load false 1 (.t 7)),
 oo 9 (.bin .neq (.t 6) (.t 8))])
 (.cond (.t 9) (.seq (rg [oo 4 (.mv (.c (.bool false)))])
 .ret) .skip))
 (.seq (.seq (rg [oo 10 (.faddr 1 1 (.t 2)),
 oo 11 (.load false 1 (.t 10)),
 oo 12 (.faddr 1 1 (.t 3)),
 oo 13 (.load false 1 (.t 12)),
 oo 14 (.bin .neq (.t 11) (.t 13))])
 (.cond (.t 14) (.seq (rg [oo 4 (.mv (.c (.bool false)))])
 .ret) .skip))
 (.seq (rg [oo 4 (.mv (.c (.bool true)))])
 .ret))))
structure G_f53 (E:Env):Prop where
 is:Is E 36 2 f53_ac [(4,none)]
theorem f53_E {E:Env} (h:G_f53 E) (a0 a1:U):E 36 [a0,a1] =
 U.noTup a0 fun x1=>U.noTup a1 fun x2=>U.asAgg x1 fun us3=>if 0 = sizes (us3.take 0) then (us3[0]?).bind fun e4=>U.asVar false 1 e4 fun e5=>U.asAgg x2 fun us6=>if 0 = sizes (us6.take 0) then (us6[0]?).bind fun e7=>U.asVar false 1 e7 fun e8=>(U.bin .neq e5 e8).bind fun t9=>U.asBool t9
 (some (.bool false))
 (U.asAgg x1 fun us10=>if 1 = sizes (us10.take 1) then (us10[1]?).bind fun e11=>U.asVar false 1 e11 fun e12=>U.asAgg x2 fun us13=>if 1 = sizes (us13.take 1) then (us13[1]?).bind fun e14=>U.asVar false 1 e14 fun e15=>(U.bin .neq e12 e15).bind fun t16=>U.asBool t16
 (some (.bool false))
 (some (.bool true)) else none else none) else none else none:=(h.is _ rfl).trans ((Qa rfl).trans (by kernel_rfl))
def f54_b0:AC :=
 (.seq (.seq (rg [oo 11 (.mv (.t 5)),
 oo 12 (.mv (.t 0)),
 oo 13 (.len false (.t 12)),
 oo 14 (.bin .lss (.t 11) (.t 13))])
 (.cond (.t 14) .skip (.exit 0)))
 (.seq (.block 1 (.seq (.region 10 [oo 17 (.mv (.t 0)),
 oo 18 (.mv (.t 5)),
 oo 19 (.iaddr 2 (.t 17) (.t 18)),
 oo 20 (.load true 2 (.t 19)),
 oo 21 (.mv (.t 1)),
 oo 22 (.mv (.t 5)),
 oo 23 (.iaddr 2 (.t 21) (.t 22)),
 oo 24 (.load true 2 (.t 23)),
 oo 25 (.call false 36 [(.t 20),(.t 24)]),
 oo 26 (.un .not (.t 25))])
 (.cond (.t 26) (.seq (rg [oo 4 (.mv (.c (.bool false)))])
 .ret) .skip)))
 (rg [oo 15 (.mv (.t 5)),
 oo 16 (.bin .add (.t 15) (ci 1)),
 oo 5 (.mv (.t 16))])))
def f54_r0:AC :=
 (.seq (rg [oo 4 (.mv (.c (.bool true)))])
 .ret)
def f54_ac:AC :=
 (.seq (rg [oo 4 (.mv (.c (.bool false)))])
 (.seq (.seq (rg [oo 6 (.mv (.t 0)),
 oo 7 (.len false (.t 6)),
 oo 8 (.mv (.t 1)),
 oo 9 (.len false (.t 8)),
 oo 10 (.bin .neq (.t 7) (.t 9))])
 (.cond (.t 10) (.seq (rg [oo 4 (.mv (.c (.bool false)))])
 .ret) .skip))
 (.seq (.seq (rg [oo 5 (.mv (ci 0))])
 (.block 0 (.loop ⟨[0,1,5],[],[]⟩ f54_b0)))
 f54_r0)))
noncomputable def f54_l0 (E:Env) (x0:U) (x1:U) (x5:U):Option U:=loopK (roundOf E ⟨[0,1,5],[],[]⟩ f54_b0 (blockK 0 (seqK (fun s=>exec E f54_r0 s (finish [(4,none)])) (finish [(4,none)])))) ([.val x0,.val x1,.val x5],[])
theorem Qmc (E:Env) (x0:U) (x1:U) (x5:U):f54_l0 E x0 x1 x5 =
 (U.lenOf false x0).bind fun n4=>(U.bin .lss x5 (.int .i64 (n4:Int))).bind fun t5=>U.asBool t5
 (U.asInt x5 fun n6=>U.elemAt 2 x0 n6 fun e7=>U.asVar true 2 e7 fun e8=>U.asInt x5 fun n9=>U.elemAt 2 x1 n9 fun e10=>U.asVar true 2 e10 fun e11=>(E 36 [e8,e11]).bind fun t12=>(U.un .not t12).bind fun t13=>U.asBool t13
 (some (.bool false))
 ((U.bin .add x5 (.int .i64 1)).bind fun t14=>f54_l0 E x0 x1 t14))
 (some (.bool true)):=(Qf E _ _ _ _).trans (by kernel_rfl)
structure G_f54 (E:Env):Prop where
 is:Is E 33 2 f54_ac [(4,none)]
 c_f53:G_f53 E
theorem f54_E {E:Env} (h:G_f54 E) (a0 a1:U):E 33 [a0,a1] =
 (U.lenOf false a0).bind fun n1=>(U.lenOf false a1).bind fun n2=>(U.bin .neq (.int .i64 (n1:Int)) (.int .i64 (n2:Int))).bind fun t3=>U.asBool t3
 (some (.bool false))
 (f54_l0 E a0 a1 (.int .i64 0)):=(h.is _ rfl).trans ((Qa rfl).trans (by kernel_rfl))
def f39_ac:AC :=
 (.seq (rg [oo 2 (.box false 2 (.t 0)),
 oo 3 (.box false 3 (.t 1)),
 oo 4 (.mv (.c (.bool false)))])
 (.seq (.seq (rg [oo 5 (.faddr 0 0 (.t 2)),
 oo 6 (.load false 1 (.t 5)),
 oo 7 (.faddr 0 0 (.t 3)),
 oo 8 (.load false 1 (.t 7)),
 oo 9 (.bin .neq (.t 6) (.t 8))])
 (.cond (.t 9) (.seq (rg [oo 4 (.mv (.c (.bool false)))])
 .ret) .skip))
 (.seq (.seq (rg [oo 10 (.faddr 1 1 (.t 2)),
 oo 11 (.load false 1 (.t 10)),
 oo 12 (.faddr 1 1 (.t 3)),
 oo 13 (.load false 1 (.t 12)),
 oo 14 (.bin .neq (.t 11) (.t 13))])
 (.cond (.t 14) (.seq (rg [oo 4 (.mv (.c (.bool false)))])
 .ret) .skip))
 (.seq (.seq (rg [oo 15 (.faddr 2 2 (.t 2)),
 oo 16 (.load false 1 (.t 15)),
 oo 17 (.faddr 2 2 (.t 3)),
 oo 18 (.load false 1 (.t 17)),
 oo 19 (.call false 34 [(.t 16),(.t 18)]),
 oo 20 (.un .not (.t 19))])
 (.cond (.t 20) (.seq (rg [oo 4 (.mv (.c (.bool false)))])
 .ret) .skip))
 (.seq (.seq (rg [oo 21 (.faddr 3 3 (.t 2)),
 oo 22 (.load false 1 (.t 21)),
 oo 23 (.faddr 3 3 (.t 3)),
 oo 24 (.load false 1 (.t 23)),
 oo 25 (.call false 33 [(.t 22),(.t 24)]),
 oo 26 (.un .not (.t 25))])
 (.cond (.t 26) (.seq (rg [oo 4 (.mv (.c (.bool false)))])
 .ret) .skip))
 (.seq (rg [oo 4 (.mv (.c (.bool true)))])
 .ret))))))
structure G_f39 (E:Env):Prop where
 is:Is E 56 2 f39_ac [(4,none)]
 c_f44:G_f44 E
 c_f54:G_f54 E
theorem f39_E {E:Env} (h:G_f39 E) (a0 a1:U):E 56 [a0,a1] =
 U.noTup a0 fun x1=>U.noTup a1 fun x2=>U.asAgg x1 fun us3=>if 0 = sizes (us3.take 0) then (us3[0]?).bind fun e4=>U.asVar false 1 e4 fun e5=>U.asAgg x2 fun us6=>if 0 = sizes (us6.take 0) then (us6[0]?).bind fun e7=>U.asVar false 1 e7 fun e8=>(U.bin .neq e5 e8).bind fun t9=>U.asBool t9
 (some (.bool false))
 (U.asAgg x1 fun us10=>if 1 = sizes (us10.take 1) then (us10[1]?).bind fun e11=>U.asVar false 1 e11 fun e12=>U.asAgg x2 fun us13=>if 1 = sizes (us13.take 1) then (us13[1]?).bind fun e14=>U.asVar false 1 e14 fun e15=>(U.bin .neq e12 e15).bind fun t16=>U.asBool t16
 (some (.bool false))
 (U.asAgg x1 fun us17=>if 2 = sizes (us17.take 2) then (us17[2]?).bind fun e18=>U.asVar false 1 e18 fun e19=>U.asAgg x2 fun us20=>if 2 = sizes (us20.take 2) then (us20[2]?).bind fun e21=>U.asVar false 1 e21 fun e22=>(E 34 [e19,e22]).bind fun t23=>(U.un .not t23).bind fun t24=>U.asBool t24
 (some (.bool false))
 (U.asAgg x1 fun us25=>if 3 = sizes (us25.take 3) then (us25[3]?).bind fun e26=>U.asVar false 1 e26 fun e27=>U.asAgg x2 fun us28=>if 3 = sizes (us28.take 3) then (us28[3]?).bind fun e29=>U.asVar false 1 e29 fun e30=>(E 33 [e27,e30]).bind fun t31=>(U.un .not t31).bind fun t32=>U.asBool t32
 (some (.bool false))
 (some (.bool true)) else none else none) else none else none) else none else none) else none else none:=(h.is _ rfl).trans ((Qa rfl).trans (by kernel_rfl))
def f40_b0:AC :=
 (.seq (.seq (rg [oo 11 (.mv (.t 5)),
 oo 12 (.mv (.t 0)),
 oo 13 (.len false (.t 12)),
 oo 14 (.bin .lss (.t 11) (.t 13))])
 (.cond (.t 14) .skip (.exit 0)))
 (.seq (.block 1 (.seq (.region 10 [oo 17 (.mv (.t 0)),
 oo 18 (.mv (.t 5)),
 oo 19 (.iaddr 4 (.t 17) (.t 18)),
 oo 20 (.load true 4 (.t 19)),
 oo 21 (.mv (.t 1)),
 oo 22 (.mv (.t 5)),
 oo 23 (.iaddr 4 (.t 21) (.t 22)),
 oo 24 (.load true 4 (.t 23)),
 oo 25 (.call false 56 [(.t 20),(.t 24)]),
 oo 26 (.un .not (.t 25))])
 (.cond (.t 26) (.seq (rg [oo 4 (.mv (.c (.bool false)))])
 .ret) .skip)))
 (rg [oo 15 (.mv (.t 5)),
 oo 16 (.bin .add (.t 15) (ci 1)),
 oo 5 (.mv (.t 16))])))
def f40_r0:AC :=
 (.seq (rg [oo 4 (.mv (.c (.bool true)))])
 .ret)
def f40_ac:AC :=
 (.seq (rg [oo 4 (.mv (.c (.bool false)))])
 (.seq (.seq (rg [oo 6 (.mv (.t 0)),
 oo 7 (.len false (.t 6)),
 oo 8 (.mv (.t 1)),
 oo 9 (.len false (.t 8)),
 oo 10 (.bin .neq (.t 7) (.t 9))])
 (.cond (.t 10) (.seq (rg [oo 4 (.mv (.c (.bool false)))])
 .ret) .skip))
 (.seq (.seq (rg [oo 5 (.mv (ci 0))])
 (.block 0 (.loop ⟨[0,1,5],[],[]⟩ f40_b0)))
 f40_r0)))
noncomputable def f40_l0 (E:Env) (x0:U) (x1:U) (x5:U):Option U:=loopK (roundOf E ⟨[0,1,5],[],[]⟩ f40_b0 (blockK 0 (seqK (fun s=>exec E f40_r0 s (finish [(4,none)])) (finish [(4,none)])))) ([.val x0,.val x1,.val x5],[])
theorem Qgf (E:Env) (x0:U) (x1:U) (x5:U):f40_l0 E x0 x1 x5 =
 (U.lenOf false x0).bind fun n4=>(U.bin .lss x5 (.int .i64 (n4:Int))).bind fun t5=>U.asBool t5
 (U.asInt x5 fun n6=>U.elemAt 4 x0 n6 fun e7=>U.asVar true 4 e7 fun e8=>U.asInt x5 fun n9=>U.elemAt 4 x1 n9 fun e10=>U.asVar true 4 e10 fun e11=>(E 56 [e8,e11]).bind fun t12=>(U.un .not t12).bind fun t13=>U.asBool t13
 (some (.bool false))
 ((U.bin .add x5 (.int .i64 1)).bind fun t14=>f40_l0 E x0 x1 t14))
 (some (.bool true)):=(Qf E _ _ _ _).trans (by kernel_rfl)
structure G_f40 (E:Env):Prop where
 is:Is E 46 2 f40_ac [(4,none)]
 c_f39:G_f39 E
theorem f40_E {E:Env} (h:G_f40 E) (a0 a1:U):E 46 [a0,a1] =
 (U.lenOf false a0).bind fun n1=>(U.lenOf false a1).bind fun n2=>(U.bin .neq (.int .i64 (n1:Int)) (.int .i64 (n2:Int))).bind fun t3=>U.asBool t3
 (some (.bool false))
 (f40_l0 E a0 a1 (.int .i64 0)):=(h.is _ rfl).trans ((Qa rfl).trans (by kernel_rfl))
def f74_ac:AC :=
 (.seq (rg [oo 4 (.mv (ci 0))])
 (.seq (rg [oo 5 (.mv (.t 1)),
 oo 6 (.mv (.t 0)),
 oo 7 (.len false (.t 6)),
 oo 8 (.bin .sub (.t 5) (.t 7)),
 oo 1 (.mv (.t 8))])
 (.seq (.seq (rg [oo 9 (.mv (.t 1)),
 oo 10 (.bin .lss (.t 9) (ci 0))])
 (.cond (.t 10) (.seq (rg [oo 4 (.mv (ci (-1)))])
 .ret) .skip))
 (.seq (rg [oo 11 (.mv (.t 1)),
 oo 4 (.mv (.t 11))])
 .ret))))
structure G_f74 (E:Env):Prop where
 is:Is E 101 2 f74_ac [(4,none)]
theorem f74_E {E:Env} (h:G_f74 E) (a0 a1:U):E 101 [a0,a1] =
 (U.lenOf false a0).bind fun n1=>(U.bin .sub a1 (.int .i64 (n1:Int))).bind fun t2=>(U.bin .lss t2 (.int .i64 0)).bind fun t3=>U.asBool t3
 (some (.int .i64 (-1)))
 (some t2):=(h.is _ rfl).trans ((Qa rfl).trans (by kernel_rfl))
def f75_b0:AC :=
 (.seq (.seq (rg [oo 12 (.mv (.t 5)),
 oo 13 (.mv (.t 0)),
 oo 14 (.len false (.t 13)),
 oo 15 (.bin .lss (.t 12) (.t 14))])
 (.cond (.t 15) .skip (.exit 0)))
 (.seq (.block 1 (.seq (rg [oo 18 (.mv (.t 0)),
 oo 19 (.mv (.t 5)),
 oo 20 (.iaddr 1 (.t 18) (.t 19)),
 oo 21 (.load false 1 (.t 20)),
 oo 22 (.mv (.t 1)),
 oo 23 (.call false 101 [(.t 21),(.t 22)]),
 oo 1 (.mv (.t 23))])
 (.seq (rg [oo 24 (.mv (.t 1)),
 oo 25 (.bin .lss (.t 24) (ci 0))])
 (.cond (.t 25) (.seq (rg [oo 4 (.mv (ci (-1)))])
 .ret) .skip))))
 (rg [oo 16 (.mv (.t 5)),
 oo 17 (.bin .add (.t 16) (ci 1)),
 oo 5 (.mv (.t 17))])))
def f75_r0:AC :=
 (.seq (rg [oo 26 (.mv (.t 1)),
 oo 4 (.mv (.t 26))])
 .ret)
def f75_ac:AC :=
 (.seq (rg [oo 4 (.mv (ci 0))])
 (.seq (rg [oo 6 (.mv (.t 1)),
 oo 7 (.mv (.t 0)),
 oo 8 (.len false (.t 7)),
 oo 9 (.bin .sub (.t 6) (.t 8)),
 oo 1 (.mv (.t 9))])
 (.seq (.seq (rg [oo 10 (.mv (.t 1)),
 oo 11 (.bin .lss (.t 10) (ci 0))])
 (.cond (.t 11) (.seq (rg [oo 4 (.mv (ci (-1)))])
 .ret) .skip))
 (.seq (.seq (rg [oo 5 (.mv (ci 0))])
 (.block 0 (.loop ⟨[0,1,5],[],[]⟩ f75_b0)))
 f75_r0))))
noncomputable def f75_l0 (E:Env) (x0:U) (x1:U) (x5:U):Option U:=loopK (roundOf E ⟨[0,1,5],[],[]⟩ f75_b0 (blockK 0 (seqK (fun s=>exec E f75_r0 s (finish [(4,none)])) (finish [(4,none)])))) ([.val x0,.val x1,.val x5],[])
theorem Qm7 (E:Env) (x0:U) (x1:U) (x5:U):f75_l0 E x0 x1 x5 =
 (U.lenOf false x0).bind fun n4=>(U.bin .lss x5 (.int .i64 (n4:Int))).bind fun t5=>U.asBool t5
 (U.asInt x5 fun n6=>U.elemAt 1 x0 n6 fun e7=>U.asVar false 1 e7 fun e8=>(E 101 [e8,x1]).bind fun t9=>(U.bin .lss t9 (.int .i64 0)).bind fun t10=>U.asBool t10
 (some (.int .i64 (-1)))
 ((U.bin .add x5 (.int .i64 1)).bind fun t11=>f75_l0 E x0 t9 t11))
 (some x1):=(Qf E _ _ _ _).trans (by kernel_rfl)
structure G_f75 (E:Env):Prop where
 is:Is E 100 2 f75_ac [(4,none)]
 c_f74:G_f74 E
theorem f75_E {E:Env} (h:G_f75 E) (a0 a1:U):E 100 [a0,a1] =
 (U.lenOf false a0).bind fun n1=>(U.bin .sub a1 (.int .i64 (n1:Int))).bind fun t2=>(U.bin .lss t2 (.int .i64 0)).bind fun t3=>U.asBool t3
 (some (.int .i64 (-1)))
 (f75_l0 E a0 t2 (.int .i64 0)):=(h.is _ rfl).trans ((Qa rfl).trans (by kernel_rfl))
def f71_ac:AC :=
 (.seq (rg [oo 2 (.box false 2 (.t 0)),
 oo 4 (.mv (ci 0))])
 (.seq (rg [oo 5 (.faddr 0 0 (.t 2)),
 oo 6 (.load false 1 (.t 5)),
 oo 7 (.mv (.t 1)),
 oo 8 (.call false 100 [(.t 6),(.t 7)]),
 oo 1 (.mv (.t 8))])
 (.seq (.seq (rg [oo 9 (.mv (.t 1)),
 oo 10 (.bin .lss (.t 9) (ci 0))])
 (.cond (.t 10) (.seq (rg [oo 4 (.mv (ci (-1)))])
 .ret) .skip))
 (.seq (rg [oo 11 (.mv (.t 1)),
 oo 4 (.mv (.t 11))])
 .ret))))
structure G_f71 (E:Env):Prop where
 is:Is E 99 2 f71_ac [(4,none)]
 c_f75:G_f75 E
theorem f71_E {E:Env} (h:G_f71 E) (a0 a1:U):E 99 [a0,a1] =
 U.noTup a0 fun x1=>U.asAgg x1 fun us2=>if 0 = sizes (us2.take 0) then (us2[0]?).bind fun e3=>U.asVar false 1 e3 fun e4=>(E 100 [e4,a1]).bind fun t5=>(U.bin .lss t5 (.int .i64 0)).bind fun t6=>U.asBool t6
 (some (.int .i64 (-1)))
 (some t5) else none:=(h.is _ rfl).trans ((Qa rfl).trans (by kernel_rfl))
def f70_ac:AC :=
 (.seq (rg [oo 4 (.mv (ci 0))])
 (.seq (rg [oo 5 (.mv (.t 1)),
 oo 6 (.mv (.t 0)),
 oo 7 (.len false (.t 6)),
 oo 8 (.bin .sub (.t 5) (.t 7)),
 oo 1 (.mv (.t 8))])
 (.seq (.seq (rg [oo 9 (.mv (.t 1)),
 oo 10 (.bin .lss (.t 9) (ci 0))])
 (.cond (.t 10) (.seq (rg [oo 4 (.mv (ci (-1)))])
 .ret) .skip))
 (.seq (rg [oo 11 (.mv (.t 1)),
 oo 4 (.mv (.t 11))])
 .ret))))
structure G_f70 (E:Env):Prop where
 is:Is E 24 2 f70_ac [(4,none)]
theorem f70_E {E:Env} (h:G_f70 E) (a0 a1:U):E 24 [a0,a1] =
 (U.lenOf false a0).bind fun n1=>(U.bin .sub a1 (.int .i64 (n1:Int))).bind fun t2=>(U.bin .lss t2 (.int .i64 0)).bind fun t3=>U.asBool t3
 (some (.int .i64 (-1)))
 (some t2):=(h.is _ rfl).trans ((Qa rfl).trans (by kernel_rfl))
def f77_ac:AC :=
 (.seq (rg [oo 4 (.mv (ci 0))])
 (.seq (rg [oo 5 (.mv (.t 1)),
 oo 6 (.mv (.t 0)),
 oo 7 (.len false (.t 6)),
 oo 8 (.bin .sub (.t 5) (.t 7)),
 oo 1 (.mv (.t 8))])
 (.seq (.seq (rg [oo 9 (.mv (.t 1)),
 oo 10 (.bin .lss (.t 9) (ci 0))])
 (.cond (.t 10) (.seq (rg [oo 4 (.mv (ci (-1)))])
 .ret) .skip))
 (.seq (rg [oo 11 (.mv (.t 1)),
 oo 4 (.mv (.t 11))])
 .ret))))
structure G_f77 (E:Env):Prop where
 is:Is E 23 2 f77_ac [(4,none)]
theorem f77_E {E:Env} (h:G_f77 E) (a0 a1:U):E 23 [a0,a1] =
 (U.lenOf false a0).bind fun n1=>(U.bin .sub a1 (.int .i64 (n1:Int))).bind fun t2=>(U.bin .lss t2 (.int .i64 0)).bind fun t3=>U.asBool t3
 (some (.int .i64 (-1)))
 (some t2):=(h.is _ rfl).trans ((Qa rfl).trans (by kernel_rfl))
def f72_ac:AC :=
 (.seq (rg [oo 2 (.box false 2 (.t 0)),
 oo 4 (.mv (ci 0))])
 (.seq (rg [oo 5 (.faddr 7 7 (.t 2)),
 oo 6 (.load false 1 (.t 5)),
 oo 7 (.mv (.t 1)),
 oo 8 (.call false 24 [(.t 6),(.t 7)]),
 oo 1 (.mv (.t 8))])
 (.seq (.seq (rg [oo 9 (.mv (.t 1)),
 oo 10 (.bin .lss (.t 9) (ci 0))])
 (.cond (.t 10) (.seq (rg [oo 4 (.mv (ci (-1)))])
 .ret) .skip))
 (.seq (rg [oo 11 (.faddr 8 8 (.t 2)),
 oo 12 (.load false 1 (.t 11)),
 oo 13 (.mv (.t 1)),
 oo 14 (.call false 23 [(.t 12),(.t 13)]),
 oo 1 (.mv (.t 14))])
 (.seq (.seq (rg [oo 15 (.mv (.t 1)),
 oo 16 (.bin .lss (.t 15) (ci 0))])
 (.cond (.t 16) (.seq (rg [oo 4 (.mv (ci (-1)))])
 .ret) .skip))
 (.seq (rg [oo 17 (.mv (.t 1)),
 oo 4 (.mv (.t 17))])
 .ret))))))
structure G_f72 (E:Env):Prop where
 is:Is E 132 2 f72_ac [(4,none)]
 c_f70:G_f70 E
 c_f77:G_f77 E
theorem f72_E {E:Env} (h:G_f72 E) (a0 a1:U):E 132 [a0,a1] =
 U.noTup a0 fun x1=>U.asAgg x1 fun us2=>if 7 = sizes (us2.take 7) then (us2[7]?).bind fun e3=>U.asVar false 1 e3 fun e4=>(E 24 [e4,a1]).bind fun t5=>(U.bin .lss t5 (.int .i64 0)).bind fun t6=>U.asBool t6
 (some (.int .i64 (-1)))
 (U.asAgg x1 fun us7=>if 8 = sizes (us7.take 8) then (us7[8]?).bind fun e8=>U.asVar false 1 e8 fun e9=>(E 23 [e9,t5]).bind fun t10=>(U.bin .lss t10 (.int .i64 0)).bind fun t11=>U.asBool t11
 (some (.int .i64 (-1)))
 (some t10) else none) else none:=(h.is _ rfl).trans ((Qa rfl).trans (by kernel_rfl))
def f73_b0:AC :=
 (.seq (.seq (rg [oo 12 (.mv (.t 5)),
 oo 13 (.mv (.t 0)),
 oo 14 (.len false (.t 13)),
 oo 15 (.bin .lss (.t 12) (.t 14))])
 (.cond (.t 15) .skip (.exit 0)))
 (.seq (.block 1 (.seq (rg [oo 18 (.mv (.t 0)),
 oo 19 (.mv (.t 5)),
 oo 20 (.iaddr 9 (.t 18) (.t 19)),
 oo 21 (.load true 9 (.t 20)),
 oo 22 (.mv (.t 1)),
 oo 23 (.call false 132 [(.t 21),(.t 22)]),
 oo 1 (.mv (.t 23))])
 (.seq (rg [oo 24 (.mv (.t 1)),
 oo 25 (.bin .lss (.t 24) (ci 0))])
 (.cond (.t 25) (.seq (rg [oo 4 (.mv (ci (-1)))])
 .ret) .skip))))
 (rg [oo 16 (.mv (.t 5)),
 oo 17 (.bin .add (.t 16) (ci 1)),
 oo 5 (.mv (.t 17))])))
def f73_r0:AC :=
 (.seq (rg [oo 26 (.mv (.t 1)),
 oo 4 (.mv (.t 26))])
 .ret)
def f73_ac:AC :=
 (.seq (rg [oo 4 (.mv (ci 0))])
 (.seq (rg [oo 6 (.mv (.t 1)),
 oo 7 (.mv (.t 0)),
 oo 8 (.len false (.t 7)),
 oo 9 (.bin .sub (.t 6) (.t 8)),
 oo 1 (.mv (.t 9))])
 (.seq (.seq (rg [oo 10 (.mv (.t 1)),
 oo 11 (.bin .lss (.t 10) (ci 0))])
 (.cond (.t 11) (.seq (rg [oo 4 (.mv (ci (-1)))])
 .ret) .skip))
 (.seq (.seq (rg [oo 5 (.mv (ci 0))])
 (.block 0 (.loop ⟨[0,1,5],[],[]⟩ f73_b0)))
 f73_r0))))
noncomputable def f73_l0 (E:Env) (x0:U) (x1:U) (x5:U):Option U:=loopK (roundOf E ⟨[0,1,5],[],[]⟩ f73_b0 (blockK 0 (seqK (fun s=>exec E f73_r0 s (finish [(4,none)])) (finish [(4,none)])))) ([.val x0,.val x1,.val x5],[])
theorem Qm4 (E:Env) (x0:U) (x1:U) (x5:U):f73_l0 E x0 x1 x5 =
 (U.lenOf false x0).bind fun n4=>(U.bin .lss x5 (.int .i64 (n4:Int))).bind fun t5=>U.asBool t5
 (U.asInt x5 fun n6=>U.elemAt 9 x0 n6 fun e7=>U.asVar true 9 e7 fun e8=>(E 132 [e8,x1]).bind fun t9=>(U.bin .lss t9 (.int .i64 0)).bind fun t10=>U.asBool t10
 (some (.int .i64 (-1)))
 ((U.bin .add x5 (.int .i64 1)).bind fun t11=>f73_l0 E x0 t9 t11))
 (some x1):=(Qf E _ _ _ _).trans (by kernel_rfl)
structure G_f73 (E:Env):Prop where
 is:Is E 131 2 f73_ac [(4,none)]
 c_f72:G_f72 E
theorem f73_E {E:Env} (h:G_f73 E) (a0 a1:U):E 131 [a0,a1] =
 (U.lenOf false a0).bind fun n1=>(U.bin .sub a1 (.int .i64 (n1:Int))).bind fun t2=>(U.bin .lss t2 (.int .i64 0)).bind fun t3=>U.asBool t3
 (some (.int .i64 (-1)))
 (f73_l0 E a0 t2 (.int .i64 0)):=(h.is _ rfl).trans ((Qa rfl).trans (by kernel_rfl))
def f69_ac:AC :=
 (.seq (rg [oo 4 (.mv (ci 0))])
 (.seq (rg [oo 5 (.mv (.t 1)),
 oo 6 (.mv (.t 0)),
 oo 7 (.len false (.t 6)),
 oo 8 (.bin .sub (.t 5) (.t 7)),
 oo 1 (.mv (.t 8))])
 (.seq (.seq (rg [oo 9 (.mv (.t 1)),
 oo 10 (.bin .lss (.t 9) (ci 0))])
 (.cond (.t 10) (.seq (rg [oo 4 (.mv (ci (-1)))])
 .ret) .skip))
 (.seq (rg [oo 11 (.mv (.t 1)),
 oo 4 (.mv (.t 11))])
 .ret))))
structure G_f69 (E:Env):Prop where
 is:Is E 130 2 f69_ac [(4,none)]
theorem f69_E {E:Env} (h:G_f69 E) (a0 a1:U):E 130 [a0,a1] =
 (U.lenOf false a0).bind fun n1=>(U.bin .sub a1 (.int .i64 (n1:Int))).bind fun t2=>(U.bin .lss t2 (.int .i64 0)).bind fun t3=>U.asBool t3
 (some (.int .i64 (-1)))
 (some t2):=(h.is _ rfl).trans ((Qa rfl).trans (by kernel_rfl))
def f76_ac:AC :=
 (.seq (rg [oo 4 (.mv (ci 0))])
 (.seq (rg [oo 5 (.mv (.t 1)),
 oo 6 (.mv (.t 0)),
 oo 7 (.len false (.t 6)),
 oo 8 (.bin .sub (.t 5) (.t 7)),
 oo 1 (.mv (.t 8))])
 (.seq (.seq (rg [oo 9 (.mv (.t 1)),
 oo 10 (.bin .lss (.t 9) (ci 0))])
 (.cond (.t 10) (.seq (rg [oo 4 (.mv (ci (-1)))])
 .ret) .skip))
 (.seq (rg [oo 11 (.mv (.t 1)),
 oo 4 (.mv (.t 11))])
 .ret))))
structure G_f76 (E:Env):Prop where
 is:Is E 129 2 f76_ac [(4,none)]
theorem f76_E {E:Env} (h:G_f76 E) (a0 a1:U):E 129 [a0,a1] =
 (U.lenOf false a0).bind fun n1=>(U.bin .sub a1 (.int .i64 (n1:Int))).bind fun t2=>(U.bin .lss t2 (.int .i64 0)).bind fun t3=>U.asBool t3
 (some (.int .i64 (-1)))
 (some t2):=(h.is _ rfl).trans ((Qa rfl).trans (by kernel_rfl))
def f66_ac:AC :=
 (.seq (rg [oo 2 (.box false 2 (.t 0)),
 oo 4 (.mv (ci 0))])
 (.seq (rg [oo 5 (.faddr 1 1 (.t 2)),
 oo 6 (.load true 1 (.t 5)),
 oo 7 (.mv (.t 1)),
 oo 8 (.call false 99 [(.t 6),(.t 7)]),
 oo 1 (.mv (.t 8))])
 (.seq (.seq (rg [oo 9 (.mv (.t 1)),
 oo 10 (.bin .lss (.t 9) (ci 0))])
 (.cond (.t 10) (.seq (rg [oo 4 (.mv (ci (-1)))])
 .ret) .skip))
 (.seq (rg [oo 11 (.faddr 2 2 (.t 2)),
 oo 12 (.load false 1 (.t 11)),
 oo 13 (.mv (.t 1)),
 oo 14 (.call false 131 [(.t 12),(.t 13)]),
 oo 1 (.mv (.t 14))])
 (.seq (.seq (rg [oo 15 (.mv (.t 1)),
 oo 16 (.bin .lss (.t 15) (ci 0))])
 (.cond (.t 16) (.seq (rg [oo 4 (.mv (ci (-1)))])
 .ret) .skip))
 (.seq (rg [oo 17 (.faddr 3 3 (.t 2)),
 oo 18 (.load false 1 (.t 17)),
 oo 19 (.mv (.t 1)),
 oo 20 (.call false 130 [(.t 18),(.t 19)]),
 oo 1 (.mv (.t 20))])
 (.seq (.seq (rg [oo 21 (.mv (.t 1)),
 oo 22 (.bin .lss (.t 21) (ci 0))])
 (.cond (.t 22) (.seq (rg [oo 4 (.mv (ci (-1)))])
 .ret) .skip))
 (.seq (rg [oo 23 (.faddr 4 4 (.t 2)),
 oo 24 (.load false 1 (.t 23)),
 oo 25 (.mv (.t 1)),
 oo 26 (.call false 129 [(.t 24),(.t 25)]),
 oo 1 (.mv (.t 26))])
 (.seq (.seq (rg [oo 27 (.mv (.t 1)),
 oo 28 (.bin .lss (.t 27) (ci 0))])
 (.cond (.t 28) (.seq (rg [oo 4 (.mv (ci (-1)))])
 .ret) .skip))
 (.seq (rg [oo 29 (.mv (.t 1)),
 oo 4 (.mv (.t 29))])
 .ret))))))))))
structure G_f66 (E:Env):Prop where
 is:Is E 128 2 f66_ac [(4,none)]
 c_f71:G_f71 E
 c_f73:G_f73 E
 c_f69:G_f69 E
 c_f76:G_f76 E
theorem f66_E {E:Env} (h:G_f66 E) (a0 a1:U):E 128 [a0,a1] =
 U.noTup a0 fun x1=>U.asAgg x1 fun us2=>if 1 = sizes (us2.take 1) then (us2[1]?).bind fun e3=>U.asVar true 1 e3 fun e4=>(E 99 [e4,a1]).bind fun t5=>(U.bin .lss t5 (.int .i64 0)).bind fun t6=>U.asBool t6
 (some (.int .i64 (-1)))
 (U.asAgg x1 fun us7=>if 2 = sizes (us7.take 2) then (us7[2]?).bind fun e8=>U.asVar false 1 e8 fun e9=>(E 131 [e9,t5]).bind fun t10=>(U.bin .lss t10 (.int .i64 0)).bind fun t11=>U.asBool t11
 (some (.int .i64 (-1)))
 (U.asAgg x1 fun us12=>if 3 = sizes (us12.take 3) then (us12[3]?).bind fun e13=>U.asVar false 1 e13 fun e14=>(E 130 [e14,t10]).bind fun t15=>(U.bin .lss t15 (.int .i64 0)).bind fun t16=>U.asBool t16
 (some (.int .i64 (-1)))
 (U.asAgg x1 fun us17=>if 4 = sizes (us17.take 4) then (us17[4]?).bind fun e18=>U.asVar false 1 e18 fun e19=>(E 129 [e19,t15]).bind fun t20=>(U.bin .lss t20 (.int .i64 0)).bind fun t21=>U.asBool t21
 (some (.int .i64 (-1)))
 (some t20) else none) else none) else none) else none:=(h.is _ rfl).trans ((Qa rfl).trans (by kernel_rfl))
def f133_ac:AC :=
 (.seq (rg [oo 6 (.mv (.c (.bool false)))])
 (.seq (rg [oo 7 (.mv (.t 0)),
 oo 8 (.mv (.t 1)),
 oo 9 (.bin .geq (.t 7) (.t 8)),
 oo 10 (.mv (.t 9)),
 ⟨some 11,.mv (.t 0),some (10,true)⟩,
 ⟨some 12,.mv (.t 2),some (10,true)⟩,
 ⟨some 13,.bin .leq (.t 11) (.t 12),some (10,true)⟩,
 oo 14 (.pick (.t 10) (.t 13) (.c (.bool false))),
 oo 6 (.mv (.t 14))])
 .ret))
structure G_f133 (E:Env):Prop where
 is:Is E 6 3 f133_ac [(6,none)]
theorem Qv4 {E:Env} (h:G_f133 E) (a0 a1 a2:U):E 6 [a0,a1,a2] =
 (U.bin .geq a0 a1).bind fun t1=>U.asBool t1
 ((U.bin .leq a0 a2).bind fun t2=>some t2)
 (some (.bool false)):=(h.is _ rfl).trans ((Qa rfl).trans (by kernel_rfl))
def f128_ac:AC :=
 (.seq (rg [oo 1 (.box false 1 (.t 0)),
 oo 2 (.mv (.c (.bool false)))])
 (.seq (.seq (rg [oo 3 (.faddr 1 1 (.t 1)),
 oo 4 (.load false 1 (.t 3)),
 oo 5 (.call false 6 [(.t 4),(ci (-1)),(ci 99)]),
 oo 6 (.un .not (.t 5)),
 oo 7 (.mv (.t 6)),
 ⟨some 8,.faddr 2 2 (.t 1),some (7,false)⟩,
 ⟨some 9,.load false 1 (.t 8),some (7,false)⟩,
 ⟨some 10,.call false 6 [(.t 9),(ci 0),(ci 999)],some (7,false)⟩,
 ⟨some 11,.un .not (.t 10),some (7,false)⟩,
 oo 12 (.pick (.t 7) (.c (.bool true)) (.t 11)),
 oo 13 (.mv (.t 12)),
 ⟨some 14,.faddr 3 3 (.t 1),some (13,false)⟩,
 ⟨some 15,.load false 1 (.t 14),some (13,false)⟩,
 ⟨some 16,.faddr 2 2 (.t 1),some (13,false)⟩,
 ⟨some 17,.load false 1 (.t 16),some (13,false)⟩,
 ⟨some 18,.call false 6 [(.t 15),(.t 17),(ci 999)],some (13,false)⟩,
 ⟨some 19,.un .not (.t 18),some (13,false)⟩,
 oo 20 (.pick (.t 13) (.c (.bool true)) (.t 19)),
 oo 21 (.mv (.t 20)),
 ⟨some 22,.faddr 4 4 (.t 1),some (21,false)⟩,
 ⟨some 23,.load false 1 (.t 22),some (21,false)⟩,
 ⟨some 24,.call false 6 [(.t 23),(ci 1),(ci 1000)],some (21,false)⟩,
 ⟨some 25,.un .not (.t 24),some (21,false)⟩,
 oo 26 (.pick (.t 21) (.c (.bool true)) (.t 25))])
 (.cond (.t 26) (.seq (rg [oo 2 (.mv (.c (.bool false)))])
 .ret) .skip))
 (.seq (.seq (rg [oo 27 (.faddr 2 2 (.t 1)),
 oo 28 (.load false 1 (.t 27)),
 oo 29 (.bin .eql (.t 28) (ci 0))])
 (.cond (.t 29) (.seq (rg [oo 30 (.faddr 0 0 (.t 1)),
 oo 31 (.load false 1 (.t 30)),
 oo 32 (.bin .eql (.t 31) (ci 0)),
 oo 33 (.mv (.t 32)),
 ⟨some 34,.faddr 1 1 (.t 1),some (33,true)⟩,
 ⟨some 35,.load false 1 (.t 34),some (33,true)⟩,
 ⟨some 36,.bin .eql (.t 35) (ci (-1)),some (33,true)⟩,
 oo 37 (.pick (.t 33) (.t 36) (.c (.bool false))),
 oo 2 (.mv (.t 37))])
 .ret) .skip))
 (.seq (rg [oo 38 (.faddr 0 0 (.t 1)),
 oo 39 (.load false 1 (.t 38)),
 oo 40 (.call false 6 [(.t 39),(ci 1),(ci 9)]),
 oo 2 (.mv (.t 40))])
 .ret))))
structure G_f128 (E:Env):Prop where
 is:Is E 105 1 f128_ac [(2,none)]
 c_f133:G_f133 E
theorem Qvp {E:Env} (h:G_f128 E) (a0:U):E 105 [a0] =
 U.noTup a0 fun x1=>U.asAgg x1 fun us2=>if 1 = sizes (us2.take 1) then (us2[1]?).bind fun e3=>U.asVar false 1 e3 fun e4=>(E 6 [e4,(.int .i64 (-1)),(.int .i64 99)]).bind fun t5=>(U.un .not t5).bind fun t6=>U.asBool t6
 (some (.bool false))
 (U.asAgg x1 fun us7=>if 2 = sizes (us7.take 2) then (us7[2]?).bind fun e8=>U.asVar false 1 e8 fun e9=>(E 6 [e9,(.int .i64 0),(.int .i64 999)]).bind fun t10=>(U.un .not t10).bind fun t11=>U.asBool t11
 (some (.bool false))
 (U.asAgg x1 fun us12=>if 3 = sizes (us12.take 3) then (us12[3]?).bind fun e13=>U.asVar false 1 e13 fun e14=>U.asAgg x1 fun us15=>if 2 = sizes (us15.take 2) then (us15[2]?).bind fun e16=>U.asVar false 1 e16 fun e17=>(E 6 [e14,e17,(.int .i64 999)]).bind fun t18=>(U.un .not t18).bind fun t19=>U.asBool t19
 (some (.bool false))
 (U.asAgg x1 fun us20=>if 4 = sizes (us20.take 4) then (us20[4]?).bind fun e21=>U.asVar false 1 e21 fun e22=>(E 6 [e22,(.int .i64 1),(.int .i64 1000)]).bind fun t23=>(U.un .not t23).bind fun t24=>U.asBool t24
 (some (.bool false))
 (U.asAgg x1 fun us25=>if 2 = sizes (us25.take 2) then (us25[2]?).bind fun e26=>U.asVar false 1 e26 fun e27=>(U.bin .eql e27 (.int .i64 0)).bind fun t28=>U.asBool t28
 (U.asAgg x1 fun us29=>if 0 = sizes (us29.take 0) then (us29[0]?).bind fun e30=>U.asVar false 1 e30 fun e31=>(U.bin .eql e31 (.int .i64 0)).bind fun t32=>U.asBool t32
 (U.asAgg x1 fun us33=>if 1 = sizes (us33.take 1) then (us33[1]?).bind fun e34=>U.asVar false 1 e34 fun e35=>(U.bin .eql e35 (.int .i64 (-1))).bind fun t36=>some t36 else none)
 (some (.bool false)) else none)
 (U.asAgg x1 fun us37=>if 0 = sizes (us37.take 0) then (us37[0]?).bind fun e38=>U.asVar false 1 e38 fun e39=>(E 6 [e39,(.int .i64 1),(.int .i64 9)]).bind fun t40=>some t40 else none) else none) else none) else none else none) else none) else none:=(h.is _ rfl).trans ((Qa rfl).trans (by kernel_rfl))
def f124_b0:AC :=
 (.seq (.seq (rg [oo 4 (.mv (.t 3)),
 oo 5 (.mv (.t 0)),
 oo 6 (.len false (.t 5)),
 oo 7 (.bin .lss (.t 4) (.t 6))])
 (.cond (.t 7) .skip (.exit 0)))
 (.seq (.block 1 (.seq (.seq (rg [oo 10 (.mv (.t 0)),
 oo 11 (.mv (.t 3)),
 oo 12 (.iaddr 5 (.t 10) (.t 11)),
 oo 13 (.load true 5 (.t 12)),
 oo 14 (.call false 105 [(.t 13)]),
 oo 15 (.un .not (.t 14))])
 (.cond (.t 15) (.seq (rg [oo 2 (.mv (.c (.bool false)))])
 .ret) .skip))
 (.seq (.region 33 [oo 16 (.mv (.t 3)),
 oo 17 (.bin .add (.t 16) (ci 1)),
 oo 18 (.mv (.t 0)),
 oo 19 (.len false (.t 18)),
 oo 20 (.bin .lss (.t 17) (.t 19)),
 oo 21 (.mv (.t 20)),
 ⟨some 22,.mv (.t 0),some (21,true)⟩,
 ⟨some 23,.mv (.t 3),some (21,true)⟩,
 ⟨some 24,.iaddr 5 (.t 22) (.t 23),some (21,true)⟩,
 ⟨some 25,.faddr 2 2 (.t 24),some (21,true)⟩,
 ⟨some 26,.load false 1 (.t 25),some (21,true)⟩,
 ⟨some 27,.mv (.t 0),some (21,true)⟩,
 ⟨some 28,.mv (.t 3),some (21,true)⟩,
 ⟨some 29,.bin .add (.t 28) (ci 1),some (21,true)⟩,
 ⟨some 30,.iaddr 5 (.t 27) (.t 29),some (21,true)⟩,
 ⟨some 31,.faddr 2 2 (.t 30),some (21,true)⟩,
 ⟨some 32,.load false 1 (.t 31),some (21,true)⟩,
 ⟨some 33,.bin .geq (.t 26) (.t 32),some (21,true)⟩,
 ⟨some 34,.mv (.t 33),some (21,true)⟩,
 ⟨some 35,.mv (.t 0),some (34,false)⟩,
 ⟨some 36,.mv (.t 3),some (34,false)⟩,
 ⟨some 37,.iaddr 5 (.t 35) (.t 36),some (34,false)⟩,
 ⟨some 38,.faddr 4 4 (.t 37),some (34,false)⟩,
 ⟨some 39,.load false 1 (.t 38),some (34,false)⟩,
 ⟨some 40,.mv (.t 0),some (34,false)⟩,
 ⟨some 41,.mv (.t 3),some (34,false)⟩,
 ⟨some 42,.bin .add (.t 41) (ci 1),some (34,false)⟩,
 ⟨some 43,.iaddr 5 (.t 40) (.t 42),some (34,false)⟩,
 ⟨some 44,.faddr 2 2 (.t 43),some (34,false)⟩,
 ⟨some 45,.load false 1 (.t 44),some (34,false)⟩,
 ⟨some 46,.bin .gtr (.t 39) (.t 45),some (34,false)⟩,
 ⟨some 47,.pick (.t 34) (.c (.bool true)) (.t 46),some (21,true)⟩,
 oo 48 (.pick (.t 21) (.t 47) (.c (.bool false)))])
 (.cond (.t 48) (.seq (rg [oo 2 (.mv (.c (.bool false)))])
 .ret) .skip))))
 (rg [oo 8 (.mv (.t 3)),
 oo 9 (.bin .add (.t 8) (ci 1)),
 oo 3 (.mv (.t 9))])))
def f124_r0:AC :=
 (.seq (rg [oo 49 (.mv (.t 0)),
 oo 50 (.len false (.t 49)),
 oo 51 (.bin .gtr (.t 50) (ci 0)),
 oo 52 (.mv (.t 51)),
 ⟨some 53,.mv (.t 0),some (52,true)⟩,
 ⟨some 54,.mv (.t 0),some (52,true)⟩,
 ⟨some 55,.len false (.t 54),some (52,true)⟩,
 ⟨some 56,.bin .sub (.t 55) (ci 1),some (52,true)⟩,
 ⟨some 57,.iaddr 5 (.t 53) (.t 56),some (52,true)⟩,
 ⟨some 58,.faddr 4 4 (.t 57),some (52,true)⟩,
 ⟨some 59,.load false 1 (.t 58),some (52,true)⟩,
 ⟨some 60,.bin .eql (.t 59) (ci 1000),some (52,true)⟩,
 oo 61 (.pick (.t 52) (.t 60) (.c (.bool false))),
 oo 2 (.mv (.t 61))])
 .ret)
def f124_ac:AC :=
 (.seq (rg [oo 2 (.mv (.c (.bool false)))])
 (.seq (.seq (rg [oo 3 (.mv (ci 0))])
 (.block 0 (.loop ⟨[0,3],[],[]⟩ f124_b0)))
 f124_r0))
noncomputable def f124_l0 (E:Env) (x0:U) (x3:U):Option U:=loopK (roundOf E ⟨[0,3],[],[]⟩ f124_b0 (blockK 0 (seqK (fun s=>exec E f124_r0 s (finish [(2,none)])) (finish [(2,none)])))) ([.val x0,.val x3],[])
theorem Qku (E:Env) (x0:U) (x3:U):f124_l0 E x0 x3 =
 (U.lenOf false x0).bind fun n1=>(U.bin .lss x3 (.int .i64 (n1:Int))).bind fun t2=>U.asBool t2
 (U.asInt x3 fun n3=>U.elemAt 5 x0 n3 fun e4=>U.asVar true 5 e4 fun e5=>(E 105 [e5]).bind fun t6=>(U.un .not t6).bind fun t7=>U.asBool t7
 (some (.bool false))
 ((U.bin .add x3 (.int .i64 1)).bind fun t8=>(U.lenOf false x0).bind fun n9=>(U.bin .lss t8 (.int .i64 (n9:Int))).bind fun t10=>U.asBool t10
 (U.asInt x3 fun n11=>U.elemAt 5 x0 n11 fun e12=>U.fieldAt 2 2 e12 fun f13=>U.asVar false 1 f13 fun e14=>(U.bin .add x3 (.int .i64 1)).bind fun t15=>U.asInt t15 fun n16=>U.elemAt 5 x0 n16 fun e17=>U.fieldAt 2 2 e17 fun f18=>U.asVar false 1 f18 fun e19=>(U.bin .geq e14 e19).bind fun t20=>U.asBool t20
 (some (.bool false))
 (U.asInt x3 fun n21=>U.elemAt 5 x0 n21 fun e22=>U.fieldAt 4 4 e22 fun f23=>U.asVar false 1 f23 fun e24=>(U.bin .add x3 (.int .i64 1)).bind fun t25=>U.asInt t25 fun n26=>U.elemAt 5 x0 n26 fun e27=>U.fieldAt 2 2 e27 fun f28=>U.asVar false 1 f28 fun e29=>(U.bin .gtr e24 e29).bind fun t30=>U.asBool t30
 (some (.bool false))
 ((U.bin .add x3 (.int .i64 1)).bind fun t31=>f124_l0 E x0 t31)))
 ((U.bin .add x3 (.int .i64 1)).bind fun t32=>f124_l0 E x0 t32)))
 ((U.lenOf false x0).bind fun n33=>(U.bin .gtr (.int .i64 (n33:Int)) (.int .i64 0)).bind fun t34=>U.asBool t34
 ((U.lenOf false x0).bind fun n35=>(U.bin .sub (.int .i64 (n35:Int)) (.int .i64 1)).bind fun t36=>U.asInt t36 fun n37=>U.elemAt 5 x0 n37 fun e38=>U.fieldAt 4 4 e38 fun f39=>U.asVar false 1 f39 fun e40=>(U.bin .eql e40 (.int .i64 1000)).bind fun t41=>some t41)
 (some (.bool false))):=(Qf E _ _ _ _).trans (by kernel_rfl)
structure G_f124 (E:Env):Prop where
 is:Is E 104 1 f124_ac [(2,none)]
 c_f128:G_f128 E
theorem Qvg {E:Env} (h:G_f124 E) (a0:U):E 104 [a0] =
 f124_l0 E a0 (.int .i64 0):=(h.is _ rfl).trans ((Qa rfl).trans (by kernel_rfl))
def f126_b0:AC :=
 (.seq (.seq (rg [oo 4 (.mv (.t 3)),
 oo 5 (.faddr 0 0 (.t 1)),
 oo 6 (.load false 1 (.t 5)),
 oo 7 (.len false (.t 6)),
 oo 8 (.bin .lss (.t 4) (.t 7))])
 (.cond (.t 8) .skip (.exit 0)))
 (.seq (.block 1 (.seq (rg [oo 11 (.faddr 0 0 (.t 1)),
 oo 12 (.load false 1 (.t 11)),
 oo 13 (.mv (.t 3)),
 oo 14 (.iaddr 1 (.t 12) (.t 13)),
 oo 15 (.load false 1 (.t 14)),
 oo 16 (.call false 104 [(.t 15)]),
 oo 17 (.un .not (.t 16)),
 oo 18 (.mv (.t 17)),
 ⟨some 19,.faddr 0 0 (.t 1),some (18,false)⟩,
 ⟨some 20,.load false 1 (.t 19),some (18,false)⟩,
 ⟨some 21,.mv (.t 3),some (18,false)⟩,
 ⟨some 22,.iaddr 1 (.t 20) (.t 21),some (18,false)⟩,
 ⟨some 23,.load false 1 (.t 22),some (18,false)⟩,
 ⟨some 24,.iaddr 5 (.t 23) (ci 0),some (18,false)⟩,
 ⟨some 25,.faddr 2 2 (.t 24),some (18,false)⟩,
 ⟨some 26,.load false 1 (.t 25),some (18,false)⟩,
 ⟨some 27,.bin .gtr (.t 26) (ci 0),some (18,false)⟩,
 ⟨some 28,.mv (.t 27),some (18,false)⟩,
 ⟨some 29,.faddr 0 0 (.t 1),some (28,true)⟩,
 ⟨some 30,.load false 1 (.t 29),some (28,true)⟩,
 ⟨some 31,.mv (.t 3),some (28,true)⟩,
 ⟨some 32,.iaddr 1 (.t 30) (.t 31),some (28,true)⟩,
 ⟨some 33,.load false 1 (.t 32),some (28,true)⟩,
 ⟨some 34,.len false (.t 33),some (28,true)⟩,
 ⟨some 35,.bin .gtr (.t 34) (ci 50),some (28,true)⟩,
 ⟨some 36,.pick (.t 28) (.t 35) (.c (.bool false)),some (18,false)⟩,
 oo 37 (.pick (.t 18) (.c (.bool true)) (.t 36)),
 oo 38 (.mv (.t 37)),
 ⟨some 39,.faddr 0 0 (.t 1),some (38,false)⟩,
 ⟨some 40,.load false 1 (.t 39),some (38,false)⟩,
 ⟨some 41,.mv (.t 3),some (38,false)⟩,
 ⟨some 42,.iaddr 1 (.t 40) (.t 41),some (38,false)⟩,
 ⟨some 43,.load false 1 (.t 42),some (38,false)⟩,
 ⟨some 44,.len false (.t 43),some (38,false)⟩,
 ⟨some 45,.bin .gtr (.t 44) (ci 50),some (38,false)⟩,
 oo 46 (.pick (.t 38) (.c (.bool true)) (.t 45))])
 (.cond (.t 46) (.seq (rg [oo 2 (.mv (.c (.bool false)))])
 .ret) .skip)))
 (rg [oo 9 (.mv (.t 3)),
 oo 10 (.bin .add (.t 9) (ci 1)),
 oo 3 (.mv (.t 10))])))
def f126_r0:AC :=
 (.seq (rg [oo 47 (.faddr 0 0 (.t 1)),
 oo 48 (.load false 1 (.t 47)),
 oo 49 (.len false (.t 48)),
 oo 50 (.bin .eql (.t 49) (ci 6)),
 oo 2 (.mv (.t 50))])
 .ret)
def f126_ac:AC :=
 (.seq (rg [oo 1 (.box false 1 (.t 0)),
 oo 2 (.mv (.c (.bool false)))])
 (.seq (.seq (rg [oo 3 (.mv (ci 0))])
 (.block 0 (.loop ⟨[1,3],[],[(1,false)]⟩ f126_b0)))
 f126_r0))
noncomputable def f126_l0 (E:Env) (x3:U) (b1:U):Option U:=loopK (roundOf E ⟨[1,3],[],[(1,false)]⟩ f126_b0 (blockK 0 (seqK (fun s=>exec E f126_r0 s (finish [(2,none)])) (finish [(2,none)])))) ([.ptr 1 [],.val x3],[.box (.val b1)])
theorem Qkz (E:Env) (x3:U) (b1:U):f126_l0 E x3 b1 =
 U.asAgg b1 fun us2=>if 0 = sizes (us2.take 0) then (us2[0]?).bind fun e3=>U.asVar false 1 e3 fun e4=>(U.lenOf false e4).bind fun n5=>(U.bin .lss x3 (.int .i64 (n5:Int))).bind fun t6=>U.asBool t6
 (U.asAgg b1 fun us7=>if 0 = sizes (us7.take 0) then (us7[0]?).bind fun e8=>U.asVar false 1 e8 fun e9=>U.asInt x3 fun n10=>U.elemAt 1 e9 n10 fun e11=>U.asVar false 1 e11 fun e12=>(E 104 [e12]).bind fun t13=>(U.un .not t13).bind fun t14=>U.asBool t14
 (some (.bool false))
 (U.asAgg b1 fun us15=>if 0 = sizes (us15.take 0) then (us15[0]?).bind fun e16=>U.asVar false 1 e16 fun e17=>U.asInt x3 fun n18=>U.elemAt 1 e17 n18 fun e19=>U.asVar false 1 e19 fun e20=>U.elemAt 5 e20 0 fun e21=>U.fieldAt 2 2 e21 fun f22=>U.asVar false 1 f22 fun e23=>(U.bin .gtr e23 (.int .i64 0)).bind fun t24=>U.asBool t24
 (U.asAgg b1 fun us25=>if 0 = sizes (us25.take 0) then (us25[0]?).bind fun e26=>U.asVar false 1 e26 fun e27=>U.asInt x3 fun n28=>U.elemAt 1 e27 n28 fun e29=>U.asVar false 1 e29 fun e30=>(U.lenOf false e30).bind fun n31=>(U.bin .gtr (.int .i64 (n31:Int)) (.int .i64 50)).bind fun t32=>U.asBool t32
 (some (.bool false))
 (U.asAgg b1 fun us33=>if 0 = sizes (us33.take 0) then (us33[0]?).bind fun e34=>U.asVar false 1 e34 fun e35=>U.asInt x3 fun n36=>U.elemAt 1 e35 n36 fun e37=>U.asVar false 1 e37 fun e38=>(U.lenOf false e38).bind fun n39=>(U.bin .gtr (.int .i64 (n39:Int)) (.int .i64 50)).bind fun t40=>U.asBool t40
 (some (.bool false))
 ((U.bin .add x3 (.int .i64 1)).bind fun t41=>f126_l0 E t41 b1) else none) else none)
 (U.asAgg b1 fun us42=>if 0 = sizes (us42.take 0) then (us42[0]?).bind fun e43=>U.asVar false 1 e43 fun e44=>U.asInt x3 fun n45=>U.elemAt 1 e44 n45 fun e46=>U.asVar false 1 e46 fun e47=>(U.lenOf false e47).bind fun n48=>(U.bin .gtr (.int .i64 (n48:Int)) (.int .i64 50)).bind fun t49=>U.asBool t49
 (some (.bool false))
 ((U.bin .add x3 (.int .i64 1)).bind fun t50=>f126_l0 E t50 b1) else none) else none) else none)
 (U.asAgg b1 fun us51=>if 0 = sizes (us51.take 0) then (us51[0]?).bind fun e52=>U.asVar false 1 e52 fun e53=>(U.lenOf false e53).bind fun n54=>(U.bin .eql (.int .i64 (n54:Int)) (.int .i64 6)).bind fun t55=>some t55 else none) else none:=(Qf E _ _ _ _).trans (by kernel_rfl)
structure G_f126 (E:Env):Prop where
 is:Is E 103 1 f126_ac [(2,none)]
 c_f124:G_f124 E
theorem Qvl {E:Env} (h:G_f126 E) (a0:U):E 103 [a0] =
 U.noTup a0 fun x1=>f126_l0 E (.int .i64 0) x1:=(h.is _ rfl).trans ((Qa rfl).trans (by kernel_rfl))
def f119_b0:AC :=
 (.seq (.seq (rg [oo 4 (.mv (.t 3)),
 oo 5 (.mv (.t 0)),
 oo 6 (.len false (.t 5)),
 oo 7 (.bin .lss (.t 4) (.t 6))])
 (.cond (.t 7) .skip (.exit 0)))
 (.seq (.block 1 (.seq (.region 34 [oo 10 (.mv (.t 0)),
 oo 11 (.mv (.t 3)),
 oo 12 (.iaddr 2 (.t 10) (.t 11)),
 oo 13 (.faddr 0 0 (.t 12)),
 oo 14 (.load false 1 (.t 13)),
 oo 15 (.call false 6 [(.t 14),(ci 0),(ci 5)]),
 oo 16 (.un .not (.t 15)),
 oo 17 (.mv (.t 16)),
 ⟨some 18,.mv (.t 0),some (17,false)⟩,
 ⟨some 19,.mv (.t 3),some (17,false)⟩,
 ⟨some 20,.iaddr 2 (.t 18) (.t 19),some (17,false)⟩,
 ⟨some 21,.faddr 1 1 (.t 20),some (17,false)⟩,
 ⟨some 22,.load false 1 (.t 21),some (17,false)⟩,
 ⟨some 23,.call false 6 [(.t 22),(ci 1),(ci 9)],some (17,false)⟩,
 ⟨some 24,.un .not (.t 23),some (17,false)⟩,
 oo 25 (.pick (.t 17) (.c (.bool true)) (.t 24)),
 oo 26 (.mv (.t 25)),
 ⟨some 27,.mv (.t 3),some (26,false)⟩,
 ⟨some 28,.bin .gtr (.t 27) (ci 0),some (26,false)⟩,
 ⟨some 29,.mv (.t 28),some (26,false)⟩,
 ⟨some 30,.mv (.t 0),some (29,true)⟩,
 ⟨some 31,.mv (.t 3),some (29,true)⟩,
 ⟨some 32,.bin .sub (.t 31) (ci 1),some (29,true)⟩,
 ⟨some 33,.iaddr 2 (.t 30) (.t 32),some (29,true)⟩,
 ⟨some 34,.faddr 0 0 (.t 33),some (29,true)⟩,
 ⟨some 35,.load false 1 (.t 34),some (29,true)⟩,
 ⟨some 36,.mv (.t 0),some (29,true)⟩,
 ⟨some 37,.mv (.t 3),some (29,true)⟩,
 ⟨some 38,.iaddr 2 (.t 36) (.t 37),some (29,true)⟩,
 ⟨some 39,.faddr 0 0 (.t 38),some (29,true)⟩,
 ⟨some 40,.load false 1 (.t 39),some (29,true)⟩,
 ⟨some 41,.bin .geq (.t 35) (.t 40),some (29,true)⟩,
 ⟨some 42,.pick (.t 29) (.t 41) (.c (.bool false)),some (26,false)⟩,
 oo 43 (.pick (.t 26) (.c (.bool true)) (.t 42))])
 (.cond (.t 43) (.seq (rg [oo 2 (.mv (.c (.bool false)))])
 .ret) .skip)))
 (rg [oo 8 (.mv (.t 3)),
 oo 9 (.bin .add (.t 8) (ci 1)),
 oo 3 (.mv (.t 9))])))
def f119_r0:AC :=
 (.seq (rg [oo 2 (.mv (.c (.bool true)))])
 .ret)
def f119_ac:AC :=
 (.seq (rg [oo 2 (.mv (.c (.bool false)))])
 (.seq (.seq (rg [oo 3 (.mv (ci 0))])
 (.block 0 (.loop ⟨[0,3],[],[]⟩ f119_b0)))
 f119_r0))
noncomputable def f119_l0 (E:Env) (x0:U) (x3:U):Option U:=loopK (roundOf E ⟨[0,3],[],[]⟩ f119_b0 (blockK 0 (seqK (fun s=>exec E f119_r0 s (finish [(2,none)])) (finish [(2,none)])))) ([.val x0,.val x3],[])
theorem Qki (E:Env) (x0:U) (x3:U):f119_l0 E x0 x3 =
 (U.lenOf false x0).bind fun n1=>(U.bin .lss x3 (.int .i64 (n1:Int))).bind fun t2=>U.asBool t2
 (U.asInt x3 fun n3=>U.elemAt 2 x0 n3 fun e4=>U.fieldAt 0 0 e4 fun f5=>U.asVar false 1 f5 fun e6=>(E 6 [e6,(.int .i64 0),(.int .i64 5)]).bind fun t7=>(U.un .not t7).bind fun t8=>U.asBool t8
 (some (.bool false))
 (U.asInt x3 fun n9=>U.elemAt 2 x0 n9 fun e10=>U.fieldAt 1 1 e10 fun f11=>U.asVar false 1 f11 fun e12=>(E 6 [e12,(.int .i64 1),(.int .i64 9)]).bind fun t13=>(U.un .not t13).bind fun t14=>U.asBool t14
 (some (.bool false))
 ((U.bin .gtr x3 (.int .i64 0)).bind fun t15=>U.asBool t15
 ((U.bin .sub x3 (.int .i64 1)).bind fun t16=>U.asInt t16 fun n17=>U.elemAt 2 x0 n17 fun e18=>U.fieldAt 0 0 e18 fun f19=>U.asVar false 1 f19 fun e20=>U.asInt x3 fun n21=>U.elemAt 2 x0 n21 fun e22=>U.fieldAt 0 0 e22 fun f23=>U.asVar false 1 f23 fun e24=>(U.bin .geq e20 e24).bind fun t25=>U.asBool t25
 (some (.bool false))
 ((U.bin .add x3 (.int .i64 1)).bind fun t26=>f119_l0 E x0 t26))
 ((U.bin .add x3 (.int .i64 1)).bind fun t27=>f119_l0 E x0 t27))))
 (some (.bool true)):=(Qf E _ _ _ _).trans (by kernel_rfl)
structure G_f119 (E:Env):Prop where
 is:Is E 137 1 f119_ac [(2,none)]
 c_f133:G_f133 E
theorem Quz {E:Env} (h:G_f119 E) (a0:U):E 137 [a0] =
 f119_l0 E a0 (.int .i64 0):=(h.is _ rfl).trans ((Qa rfl).trans (by kernel_rfl))
def f120_b0:AC :=
 (.seq (.seq (rg [oo 4 (.mv (.t 3)),
 oo 5 (.mv (.t 0)),
 oo 6 (.len false (.t 5)),
 oo 7 (.bin .lss (.t 4) (.t 6))])
 (.cond (.t 7) .skip (.exit 0)))
 (.seq (.block 1 (.seq (.region 47 [oo 10 (.mv (.t 0)),
 oo 11 (.mv (.t 3)),
 oo 12 (.iaddr 2 (.t 10) (.t 11)),
 oo 13 (.faddr 0 0 (.t 12)),
 oo 14 (.load false 1 (.t 13)),
 oo 15 (.call false 6 [(.t 14),(ci 1),(ci 9)]),
 oo 16 (.un .not (.t 15)),
 oo 17 (.mv (.t 16)),
 ⟨some 18,.mv (.t 0),some (17,false)⟩,
 ⟨some 19,.mv (.t 3),some (17,false)⟩,
 ⟨some 20,.iaddr 2 (.t 18) (.t 19),some (17,false)⟩,
 ⟨some 21,.faddr 1 1 (.t 20),some (17,false)⟩,
 ⟨some 22,.load false 1 (.t 21),some (17,false)⟩,
 ⟨some 23,.call false 6 [(.t 22),(ci 1),(ci 9)],some (17,false)⟩,
 ⟨some 24,.un .not (.t 23),some (17,false)⟩,
 oo 25 (.pick (.t 17) (.c (.bool true)) (.t 24)),
 oo 26 (.mv (.t 25)),
 ⟨some 27,.mv (.t 0),some (26,false)⟩,
 ⟨some 28,.mv (.t 3),some (26,false)⟩,
 ⟨some 29,.iaddr 2 (.t 27) (.t 28),some (26,false)⟩,
 ⟨some 30,.faddr 0 0 (.t 29),some (26,false)⟩,
 ⟨some 31,.load false 1 (.t 30),some (26,false)⟩,
 ⟨some 32,.mv (.t 0),some (26,false)⟩,
 ⟨some 33,.mv (.t 3),some (26,false)⟩,
 ⟨some 34,.iaddr 2 (.t 32) (.t 33),some (26,false)⟩,
 ⟨some 35,.faddr 1 1 (.t 34),some (26,false)⟩,
 ⟨some 36,.load false 1 (.t 35),some (26,false)⟩,
 ⟨some 37,.bin .eql (.t 31) (.t 36),some (26,false)⟩,
 oo 38 (.pick (.t 26) (.c (.bool true)) (.t 37)),
 oo 39 (.mv (.t 38)),
 ⟨some 40,.mv (.t 3),some (39,false)⟩,
 ⟨some 41,.bin .gtr (.t 40) (ci 0),some (39,false)⟩,
 ⟨some 42,.mv (.t 41),some (39,false)⟩,
 ⟨some 43,.mv (.t 0),some (42,true)⟩,
 ⟨some 44,.mv (.t 3),some (42,true)⟩,
 ⟨some 45,.bin .sub (.t 44) (ci 1),some (42,true)⟩,
 ⟨some 46,.iaddr 2 (.t 43) (.t 45),some (42,true)⟩,
 ⟨some 47,.faddr 0 0 (.t 46),some (42,true)⟩,
 ⟨some 48,.load false 1 (.t 47),some (42,true)⟩,
 ⟨some 49,.mv (.t 0),some (42,true)⟩,
 ⟨some 50,.mv (.t 3),some (42,true)⟩,
 ⟨some 51,.iaddr 2 (.t 49) (.t 50),some (42,true)⟩,
 ⟨some 52,.faddr 0 0 (.t 51),some (42,true)⟩,
 ⟨some 53,.load false 1 (.t 52),some (42,true)⟩,
 ⟨some 54,.bin .geq (.t 48) (.t 53),some (42,true)⟩,
 ⟨some 55,.pick (.t 42) (.t 54) (.c (.bool false)),some (39,false)⟩,
 oo 56 (.pick (.t 39) (.c (.bool true)) (.t 55))])
 (.cond (.t 56) (.seq (rg [oo 2 (.mv (.c (.bool false)))])
 .ret) .skip)))
 (rg [oo 8 (.mv (.t 3)),
 oo 9 (.bin .add (.t 8) (ci 1)),
 oo 3 (.mv (.t 9))])))
def f120_r0:AC :=
 (.seq (rg [oo 2 (.mv (.c (.bool true)))])
 .ret)
def f120_ac:AC :=
 (.seq (rg [oo 2 (.mv (.c (.bool false)))])
 (.seq (.seq (rg [oo 3 (.mv (ci 0))])
 (.block 0 (.loop ⟨[0,3],[],[]⟩ f120_b0)))
 f120_r0))
noncomputable def f120_l0 (E:Env) (x0:U) (x3:U):Option U:=loopK (roundOf E ⟨[0,3],[],[]⟩ f120_b0 (blockK 0 (seqK (fun s=>exec E f120_r0 s (finish [(2,none)])) (finish [(2,none)])))) ([.val x0,.val x3],[])
theorem Qkm (E:Env) (x0:U) (x3:U):f120_l0 E x0 x3 =
 (U.lenOf false x0).bind fun n1=>(U.bin .lss x3 (.int .i64 (n1:Int))).bind fun t2=>U.asBool t2
 (U.asInt x3 fun n3=>U.elemAt 2 x0 n3 fun e4=>U.fieldAt 0 0 e4 fun f5=>U.asVar false 1 f5 fun e6=>(E 6 [e6,(.int .i64 1),(.int .i64 9)]).bind fun t7=>(U.un .not t7).bind fun t8=>U.asBool t8
 (some (.bool false))
 (U.asInt x3 fun n9=>U.elemAt 2 x0 n9 fun e10=>U.fieldAt 1 1 e10 fun f11=>U.asVar false 1 f11 fun e12=>(E 6 [e12,(.int .i64 1),(.int .i64 9)]).bind fun t13=>(U.un .not t13).bind fun t14=>U.asBool t14
 (some (.bool false))
 (U.asInt x3 fun n15=>U.elemAt 2 x0 n15 fun e16=>U.fieldAt 0 0 e16 fun f17=>U.asVar false 1 f17 fun e18=>U.asInt x3 fun n19=>U.elemAt 2 x0 n19 fun e20=>U.fieldAt 1 1 e20 fun f21=>U.asVar false 1 f21 fun e22=>(U.bin .eql e18 e22).bind fun t23=>U.asBool t23
 (some (.bool false))
 ((U.bin .gtr x3 (.int .i64 0)).bind fun t24=>U.asBool t24
 ((U.bin .sub x3 (.int .i64 1)).bind fun t25=>U.asInt t25 fun n26=>U.elemAt 2 x0 n26 fun e27=>U.fieldAt 0 0 e27 fun f28=>U.asVar false 1 f28 fun e29=>U.asInt x3 fun n30=>U.elemAt 2 x0 n30 fun e31=>U.fieldAt 0 0 e31 fun f32=>U.asVar false 1 f32 fun e33=>(U.bin .geq e29 e33).bind fun t34=>U.asBool t34
 (some (.bool false))
 ((U.bin .add x3 (.int .i64 1)).bind fun t35=>f120_l0 E x0 t35))
 ((U.bin .add x3 (.int .i64 1)).bind fun t36=>f120_l0 E x0 t36)))))
 (some (.bool true)):=(Qf E _ _ _ _).trans (by kernel_rfl)
structure G_f120 (E:Env):Prop where
 is:Is E 138 1 f120_ac [(2,none)]
 c_f133:G_f133 E
theorem Qu4 {E:Env} (h:G_f120 E) (a0:U):E 138 [a0] =
 f120_l0 E a0 (.int .i64 0):=(h.is _ rfl).trans ((Qa rfl).trans (by kernel_rfl))
def f129_b1:AC :=
 (.seq (.seq (rg [oo 17 (.mv (.t 5)),
 oo 18 (.faddr 0 0 (.t 1)),
 oo 19 (.load false 1 (.t 18)),
 oo 20 (.mv (.t 4)),
 oo 21 (.iaddr 1 (.t 19) (.t 20)),
 oo 22 (.load false 1 (.t 21)),
 oo 23 (.len false (.t 22)),
 oo 24 (.bin .lss (.t 17) (.t 23))])
 (.cond (.t 24) .skip (.exit 2)))
 (.seq (.block 3 (.region 21 [oo 27 (.mv (.t 3)),
 oo 28 (.faddr 0 0 (.t 1)),
 oo 29 (.load false 1 (.t 28)),
 oo 30 (.mv (.t 4)),
 oo 31 (.iaddr 1 (.t 29) (.t 30)),
 oo 32 (.load false 1 (.t 31)),
 oo 33 (.mv (.t 5)),
 oo 34 (.iaddr 5 (.t 32) (.t 33)),
 oo 35 (.faddr 2 2 (.t 34)),
 oo 36 (.load false 1 (.t 35)),
 oo 37 (.faddr 0 0 (.t 1)),
 oo 38 (.load false 1 (.t 37)),
 oo 39 (.mv (.t 4)),
 oo 40 (.iaddr 1 (.t 38) (.t 39)),
 oo 41 (.load false 1 (.t 40)),
 oo 42 (.mv (.t 5)),
 oo 43 (.iaddr 5 (.t 41) (.t 42)),
 oo 44 (.faddr 3 3 (.t 43)),
 oo 45 (.load false 1 (.t 44)),
 oo 46 (.minmax true [(.t 27),(.t 36),(.t 45)]),
 oo 3 (.mv (.t 46))]))
 (rg [oo 25 (.mv (.t 5)),
 oo 26 (.bin .add (.t 25) (ci 1)),
 oo 5 (.mv (.t 26))])))
def f129_r0:AC :=
 (rg [oo 15 (.mv (.t 4)),
 oo 16 (.bin .add (.t 15) (ci 1)),
 oo 4 (.mv (.t 16))])
def f129_b0:AC :=
 (.seq (.seq (rg [oo 6 (.mv (.t 4)),
 oo 7 (.faddr 0 0 (.t 1)),
 oo 8 (.load false 1 (.t 7)),
 oo 9 (.len false (.t 8)),
 oo 10 (.bin .lss (.t 6) (.t 9)),
 oo 11 (.mv (.t 10)),
 ⟨some 12,.load true 1 (.t 1),some (11,true)⟩,
 ⟨some 13,.call false 103 [(.t 12)],some (11,true)⟩,
 oo 14 (.pick (.t 11) (.t 13) (.c (.bool false)))])
 (.cond (.t 14) .skip (.exit 0)))
 (.seq (.block 1 (.seq (rg [oo 5 (.mv (ci 0))])
 (.block 2 (.loop ⟨[1,3,4,5],[],[(1,false)]⟩ f129_b1))))
 f129_r0))
def f129_r1:AC :=
 (.seq (rg [oo 47 (.mv (.t 3)),
 oo 2 (.mv (.t 47))])
 .ret)
def f129_ac:AC :=
 (.seq (rg [oo 1 (.box false 1 (.t 0)),
 oo 2 (.mv (ci 0))])
 (.seq (rg [oo 3 (.mv (ci 0))])
 (.seq (.seq (rg [oo 4 (.mv (ci 0))])
 (.block 0 (.loop ⟨[1,3,4],[],[(1,false)]⟩ f129_b0)))
 f129_r1)))
noncomputable def f129_l0 (E:Env) (x3:U) (x4:U) (b1:U):Option U:=loopK (roundOf E ⟨[1,3,4],[],[(1,false)]⟩ f129_b0 (blockK 0 (seqK (fun s=>exec E f129_r1 s (finish [(2,none)])) (finish [(2,none)])))) ([.ptr 1 [],.val x3,.val x4],[.box (.val b1)])
noncomputable def f129_l1 (E:Env) (x3:U) (x4:U) (x5:U) (b1:U):Option U:=loopK (roundOf E ⟨[1,3,4,5],[],[(1,false)]⟩ f129_b1 (blockK 2 (blockK 1 (seqK (fun s=>exec E f129_r0 s (roundK ⟨[1,3,4],[],[(1,false)]⟩ (loopK (roundOf E ⟨[1,3,4],[],[(1,false)]⟩ f129_b0 (blockK 0 (seqK (fun s=>exec E f129_r1 s (finish [(2,none)])) (finish [(2,none)]))))) (blockK 0 (seqK (fun s=>exec E f129_r1 s (finish [(2,none)])) (finish [(2,none)]))))) (roundK ⟨[1,3,4],[],[(1,false)]⟩ (loopK (roundOf E ⟨[1,3,4],[],[(1,false)]⟩ f129_b0 (blockK 0 (seqK (fun s=>exec E f129_r1 s (finish [(2,none)])) (finish [(2,none)]))))) (blockK 0 (seqK (fun s=>exec E f129_r1 s (finish [(2,none)])) (finish [(2,none)])))))))) ([.ptr 1 [],.val x3,.val x4,.val x5],[.box (.val b1)])
theorem Qk4 (E:Env) (x3:U) (x4:U) (b1:U):f129_l0 E x3 x4 b1 =
 U.asAgg b1 fun us2=>if 0 = sizes (us2.take 0) then (us2[0]?).bind fun e3=>U.asVar false 1 e3 fun e4=>(U.lenOf false e4).bind fun n5=>(U.bin .lss x4 (.int .i64 (n5:Int))).bind fun t6=>U.asBool t6
 (U.asVar true 1 b1 fun e7=>(E 103 [e7]).bind fun t8=>U.asBool t8
 (f129_l1 E x3 x4 (.int .i64 0) b1)
 (some x3))
 (some x3) else none:=(Qf E _ _ _ _).trans (by kernel_rfl)
theorem Qk6 (E:Env) (x3:U) (x4:U) (x5:U) (b1:U):f129_l1 E x3 x4 x5 b1 =
 U.asAgg b1 fun us9=>if 0 = sizes (us9.take 0) then (us9[0]?).bind fun e10=>U.asVar false 1 e10 fun e11=>U.asInt x4 fun n12=>U.elemAt 1 e11 n12 fun e13=>U.asVar false 1 e13 fun e14=>(U.lenOf false e14).bind fun n15=>(U.bin .lss x5 (.int .i64 (n15:Int))).bind fun t16=>U.asBool t16
 (U.asAgg b1 fun us17=>if 0 = sizes (us17.take 0) then (us17[0]?).bind fun e18=>U.asVar false 1 e18 fun e19=>U.asInt x4 fun n20=>U.elemAt 1 e19 n20 fun e21=>U.asVar false 1 e21 fun e22=>U.asInt x5 fun n23=>U.elemAt 5 e22 n23 fun e24=>U.fieldAt 2 2 e24 fun f25=>U.asVar false 1 f25 fun e26=>U.asAgg b1 fun us27=>if 0 = sizes (us27.take 0) then (us27[0]?).bind fun e28=>U.asVar false 1 e28 fun e29=>U.asInt x4 fun n30=>U.elemAt 1 e29 n30 fun e31=>U.asVar false 1 e31 fun e32=>U.asInt x5 fun n33=>U.elemAt 5 e32 n33 fun e34=>U.fieldAt 3 3 e34 fun f35=>U.asVar false 1 f35 fun e36=>U.asInt x3 fun n37=>U.asInt e26 fun n38=>U.asInt e36 fun n39=>(U.bin .add x5 (.int .i64 1)).bind fun t40=>f129_l1 E (.int .i64 (([n38,n39]:List Int).foldl (fun a b=>if true then (if a < b then b else a) else (if b < a then b else a)) n37)) x4 t40 b1 else none else none)
 ((U.bin .add x4 (.int .i64 1)).bind fun t41=>f129_l0 E x3 t41 b1) else none:=(Qf E _ _ _ _).trans (by kernel_rfl)
structure G_f129 (E:Env):Prop where
 is:Is E 139 1 f129_ac [(2,none)]
 c_f126:G_f126 E
theorem Qvr {E:Env} (h:G_f129 E) (a0:U):E 139 [a0] =
 U.noTup a0 fun x1=>f129_l0 E (.int .i64 0) (.int .i64 0) x1:=(h.is _ rfl).trans ((Qa rfl).trans (by kernel_rfl))
def f134_ac:AC :=
 (.seq (rg [oo 2 (.box false 2 (.t 0)),
 oo 3 (.box false 3 (.t 1)),
 oo 4 (.mv (.c (.bool false)))])
 (.seq (rg [oo 5 (.faddr 0 0 (.t 2)),
 oo 6 (.load false 1 (.t 5)),
 oo 7 (.faddr 0 0 (.t 3)),
 oo 8 (.load false 1 (.t 7)),
 oo 9 (.bin .lss (.t 6) (.t 8)),
 oo 10 (.mv (.t 9)),
 ⟨some 11,.faddr 0 0 (.t 2),some (10,false)⟩,
 ⟨some 12,.load false 1 (.t 11),some (10,false)⟩,
 ⟨some 13,.faddr 0 0 (.t 3),some (10,false)⟩,
 ⟨some 14,.load false 1 (.t 13),some (10,false)⟩,
 ⟨some 15,.bin .eql (.t 12) (.t 14),some (10,false)⟩,
 ⟨some 16,.mv (.t 15),some (10,false)⟩,
 ⟨some 17,.faddr 1 1 (.t 2),some (16,true)⟩,
 ⟨some 18,.load false 1 (.t 17),some (16,true)⟩,
 ⟨some 19,.faddr 1 1 (.t 3),some (16,true)⟩,
 ⟨some 20,.load false 1 (.t 19),some (16,true)⟩,
 ⟨some 21,.bin .lss (.t 18) (.t 20),some (16,true)⟩,
 ⟨some 22,.pick (.t 16) (.t 21) (.c (.bool false)),some (10,false)⟩,
 oo 23 (.pick (.t 10) (.c (.bool true)) (.t 22)),
 oo 4 (.mv (.t 23))])
 .ret))
structure G_f134 (E:Env):Prop where
 is:Is E 71 2 f134_ac [(4,none)]
theorem Qv6 {E:Env} (h:G_f134 E) (a0 a1:U):E 71 [a0,a1] =
 U.noTup a0 fun x1=>U.noTup a1 fun x2=>U.asAgg x1 fun us3=>if 0 = sizes (us3.take 0) then (us3[0]?).bind fun e4=>U.asVar false 1 e4 fun e5=>U.asAgg x2 fun us6=>if 0 = sizes (us6.take 0) then (us6[0]?).bind fun e7=>U.asVar false 1 e7 fun e8=>(U.bin .lss e5 e8).bind fun t9=>U.asBool t9
 (some (.bool true))
 (U.asAgg x1 fun us10=>if 0 = sizes (us10.take 0) then (us10[0]?).bind fun e11=>U.asVar false 1 e11 fun e12=>U.asAgg x2 fun us13=>if 0 = sizes (us13.take 0) then (us13[0]?).bind fun e14=>U.asVar false 1 e14 fun e15=>(U.bin .eql e12 e15).bind fun t16=>U.asBool t16
 (U.asAgg x1 fun us17=>if 1 = sizes (us17.take 1) then (us17[1]?).bind fun e18=>U.asVar false 1 e18 fun e19=>U.asAgg x2 fun us20=>if 1 = sizes (us20.take 1) then (us20[1]?).bind fun e21=>U.asVar false 1 e21 fun e22=>(U.bin .lss e19 e22).bind fun t23=>some t23 else none else none)
 (some (.bool false)) else none else none) else none else none:=(h.is _ rfl).trans ((Qa rfl).trans (by kernel_rfl))
def f127_b1:AC :=
 (.seq (.seq (rg [oo 7 (.mv (.t 3)),
 oo 8 (.faddr 7 7 (.t 1)),
 oo 9 (.load false 1 (.t 8)),
 oo 10 (.len false (.t 9)),
 oo 11 (.bin .lss (.t 7) (.t 10))])
 (.cond (.t 11) .skip (.exit 0)))
 (.seq (.block 1 (.seq (rg [oo 14 (.faddr 7 7 (.t 1)),
 oo 15 (.load false 1 (.t 14)),
 oo 16 (.mv (.t 3)),
 oo 17 (.iaddr 2 (.t 15) (.t 16)),
 oo 18 (.load true 2 (.t 17)),
 oo 4 (.alloc 4 (.agg [(.int .i64 0),(.int .i64 0)])),
 ⟨none,.store 2 (.t 4) (.t 18),none⟩])
 (.seq (.region 25 [oo 19 (.faddr 0 0 (.t 4)),
 oo 20 (.load false 1 (.t 19)),
 oo 21 (.call false 6 [(.t 20),(ci 0),(ci 5)]),
 oo 22 (.un .not (.t 21)),
 oo 23 (.mv (.t 22)),
 ⟨some 24,.faddr 1 1 (.t 4),some (23,false)⟩,
 ⟨some 25,.load false 1 (.t 24),some (23,false)⟩,
 ⟨some 26,.call false 6 [(.t 25),(ci 0),(ci 999)],some (23,false)⟩,
 ⟨some 27,.un .not (.t 26),some (23,false)⟩,
 oo 28 (.pick (.t 23) (.c (.bool true)) (.t 27)),
 oo 29 (.mv (.t 28)),
 ⟨some 30,.mv (.t 3),some (29,false)⟩,
 ⟨some 31,.bin .gtr (.t 30) (ci 0),some (29,false)⟩,
 ⟨some 32,.mv (.t 31),some (29,false)⟩,
 ⟨some 33,.faddr 7 7 (.t 1),some (32,true)⟩,
 ⟨some 34,.load false 1 (.t 33),some (32,true)⟩,
 ⟨some 35,.mv (.t 3),some (32,true)⟩,
 ⟨some 36,.bin .sub (.t 35) (ci 1),some (32,true)⟩,
 ⟨some 37,.iaddr 2 (.t 34) (.t 36),some (32,true)⟩,
 ⟨some 38,.load true 2 (.t 37),some (32,true)⟩,
 ⟨some 39,.load true 2 (.t 4),some (32,true)⟩,
 ⟨some 40,.call false 71 [(.t 38),(.t 39)],some (32,true)⟩,
 ⟨some 41,.un .not (.t 40),some (32,true)⟩,
 ⟨some 42,.pick (.t 32) (.t 41) (.c (.bool false)),some (29,false)⟩,
 oo 43 (.pick (.t 29) (.c (.bool true)) (.t 42))])
 (.cond (.t 43) (.seq (rg [oo 2 (.mv (.c (.bool false)))])
 .ret) .skip))))
 (rg [oo 12 (.mv (.t 3)),
 oo 13 (.bin .add (.t 12) (ci 1)),
 oo 3 (.mv (.t 13))])))
def f127_b0:AC :=
 (.seq (.seq (rg [oo 44 (.mv (.t 5)),
 oo 45 (.faddr 8 8 (.t 1)),
 oo 46 (.load false 1 (.t 45)),
 oo 47 (.len false (.t 46)),
 oo 48 (.bin .lss (.t 44) (.t 47))])
 (.cond (.t 48) .skip (.exit 2)))
 (.seq (.block 3 (.seq (rg [oo 51 (.faddr 8 8 (.t 1)),
 oo 52 (.load false 1 (.t 51)),
 oo 53 (.mv (.t 5)),
 oo 54 (.iaddr 2 (.t 52) (.t 53)),
 oo 55 (.load true 2 (.t 54)),
 oo 6 (.alloc 6 (.agg [(.int .i64 0),(.int .i64 0)])),
 ⟨none,.store 2 (.t 6) (.t 55),none⟩])
 (.seq (.region 26 [oo 56 (.faddr 0 0 (.t 6)),
 oo 57 (.load false 1 (.t 56)),
 oo 58 (.call false 6 [(.t 57),(ci 0),(ci 5)]),
 oo 59 (.un .not (.t 58)),
 oo 60 (.mv (.t 59)),
 ⟨some 61,.faddr 1 1 (.t 6),some (60,false)⟩,
 ⟨some 62,.load false 1 (.t 61),some (60,false)⟩,
 ⟨some 63,.call false 6 [(.t 62),(ci (-1)),(ci 99)],some (60,false)⟩,
 ⟨some 64,.un .not (.t 63),some (60,false)⟩,
 oo 65 (.pick (.t 60) (.c (.bool true)) (.t 64)),
 oo 66 (.mv (.t 65)),
 ⟨some 67,.mv (.t 5),some (66,false)⟩,
 ⟨some 68,.bin .gtr (.t 67) (ci 0),some (66,false)⟩,
 ⟨some 69,.mv (.t 68),some (66,false)⟩,
 ⟨some 70,.faddr 8 8 (.t 1),some (69,true)⟩,
 ⟨some 71,.load false 1 (.t 70),some (69,true)⟩,
 ⟨some 72,.mv (.t 5),some (69,true)⟩,
 ⟨some 73,.bin .sub (.t 72) (ci 1),some (69,true)⟩,
 ⟨some 74,.iaddr 2 (.t 71) (.t 73),some (69,true)⟩,
 ⟨some 75,.faddr 0 0 (.t 74),some (69,true)⟩,
 ⟨some 76,.load false 1 (.t 75),some (69,true)⟩,
 ⟨some 77,.faddr 0 0 (.t 6),some (69,true)⟩,
 ⟨some 78,.load false 1 (.t 77),some (69,true)⟩,
 ⟨some 79,.bin .geq (.t 76) (.t 78),some (69,true)⟩,
 ⟨some 80,.pick (.t 69) (.t 79) (.c (.bool false)),some (66,false)⟩,
 oo 81 (.pick (.t 66) (.c (.bool true)) (.t 80))])
 (.cond (.t 81) (.seq (rg [oo 2 (.mv (.c (.bool false)))])
 .ret) .skip))))
 (rg [oo 49 (.mv (.t 5)),
 oo 50 (.bin .add (.t 49) (ci 1)),
 oo 5 (.mv (.t 50))])))
def f127_r0:AC :=
 (.seq (.seq (rg [oo 82 (.faddr 0 0 (.t 1)),
 oo 83 (.load false 1 (.t 82)),
 oo 84 (.call false 6 [(.t 83),(ci 1),(ci 9)]),
 oo 85 (.un .not (.t 84)),
 oo 86 (.mv (.t 85)),
 ⟨some 87,.faddr 1 1 (.t 1),some (86,false)⟩,
 ⟨some 88,.load false 1 (.t 87),some (86,false)⟩,
 ⟨some 89,.call false 6 [(.t 88),(ci 1),(ci 4)],some (86,false)⟩,
 ⟨some 90,.un .not (.t 89),some (86,false)⟩,
 oo 91 (.pick (.t 86) (.c (.bool true)) (.t 90)),
 oo 92 (.mv (.t 91)),
 ⟨some 93,.faddr 3 3 (.t 1),some (92,false)⟩,
 ⟨some 94,.load false 1 (.t 93),some (92,false)⟩,
 ⟨some 95,.call false 6 [(.t 94),(ci 0),(ci 999)],some (92,false)⟩,
 ⟨some 96,.un .not (.t 95),some (92,false)⟩,
 oo 97 (.pick (.t 92) (.c (.bool true)) (.t 96))])
 (.cond (.t 97) (.seq (rg [oo 2 (.mv (.c (.bool false)))])
 .ret) .skip))
 (.seq (rg [oo 98 (.faddr 2 2 (.t 1)),
 oo 99 (.load false 1 (.t 98)),
 oo 100 (.call false 6 [(.t 99),(ci 1),(ci 3)]),
 oo 101 (.mv (.t 100)),
 ⟨some 102,.faddr 4 4 (.t 1),some (101,true)⟩,
 ⟨some 103,.load false 1 (.t 102),some (101,true)⟩,
 ⟨some 104,.call false 6 [(.t 103),(ci 0),(ci 999)],some (101,true)⟩,
 oo 105 (.pick (.t 101) (.t 104) (.c (.bool false))),
 oo 106 (.mv (.t 105)),
 ⟨some 107,.faddr 5 5 (.t 1),some (106,true)⟩,
 ⟨some 108,.load false 1 (.t 107),some (106,true)⟩,
 ⟨some 109,.call false 6 [(.t 108),(ci 1),(ci 1000)],some (106,true)⟩,
 oo 110 (.pick (.t 106) (.t 109) (.c (.bool false))),
 oo 111 (.mv (.t 110)),
 ⟨some 112,.faddr 2 2 (.t 1),some (111,true)⟩,
 ⟨some 113,.load false 1 (.t 112),some (111,true)⟩,
 ⟨some 114,.bin .eql (.t 113) (ci 2),some (111,true)⟩,
 ⟨some 115,.faddr 6 6 (.t 1),some (111,true)⟩,
 ⟨some 116,.load false 1 (.t 115),some (111,true)⟩,
 ⟨some 117,.bin .gtr (.t 116) (ci 0),some (111,true)⟩,
 ⟨some 118,.eqv false 0 (.t 114) (.t 117),some (111,true)⟩,
 oo 119 (.pick (.t 111) (.t 118) (.c (.bool false))),
 oo 120 (.mv (.t 119)),
 ⟨some 121,.faddr 6 6 (.t 1),some (120,true)⟩,
 ⟨some 122,.load false 1 (.t 121),some (120,true)⟩,
 ⟨some 123,.call false 6 [(.t 122),(ci 0),(ci 999)],some (120,true)⟩,
 oo 124 (.pick (.t 120) (.t 123) (.c (.bool false))),
 oo 125 (.mv (.t 124)),
 ⟨some 126,.faddr 7 7 (.t 1),some (125,true)⟩,
 ⟨some 127,.load false 1 (.t 126),some (125,true)⟩,
 ⟨some 128,.len false (.t 127),some (125,true)⟩,
 ⟨some 129,.bin .leq (.t 128) (ci 60),some (125,true)⟩,
 oo 130 (.pick (.t 125) (.t 129) (.c (.bool false))),
 oo 2 (.mv (.t 130))])
 .ret))
def f127_r1:AC :=
 (.seq (.seq (rg [oo 5 (.mv (ci 0))])
 (.block 2 (.loop ⟨[1,5],[],[(1,false)]⟩ f127_b0)))
 f127_r0)
def f127_ac:AC :=
 (.seq (rg [oo 1 (.box false 1 (.t 0)),
 oo 2 (.mv (.c (.bool false)))])
 (.seq (.seq (rg [oo 3 (.mv (ci 0))])
 (.block 0 (.loop ⟨[1,3],[],[(1,false)]⟩ f127_b1)))
 f127_r1))
noncomputable def f127_l1 (E:Env) (x3:U) (b1:U):Option U:=loopK (roundOf E ⟨[1,3],[],[(1,false)]⟩ f127_b1 (blockK 0 (seqK (fun s=>exec E f127_r1 s (finish [(2,none)])) (finish [(2,none)])))) ([.ptr 1 [],.val x3],[.box (.val b1)])
noncomputable def f127_l0 (E:Env) (x5:U) (b1:U):Option U:=loopK (roundOf E ⟨[1,5],[],[(1,false)]⟩ f127_b0 (blockK 2 (seqK (fun s=>exec E f127_r0 s (finish [(2,none)])) (finish [(2,none)])))) ([.ptr 1 [],.val x5],[.box (.val b1)])
theorem Qk2 (E:Env) (x3:U) (b1:U):f127_l1 E x3 b1 =
 U.asAgg b1 fun us2=>if 7 = sizes (us2.take 7) then (us2[7]?).bind fun e3=>U.asVar false 1 e3 fun e4=>(U.lenOf false e4).bind fun n5=>(U.bin .lss x3 (.int .i64 (n5:Int))).bind fun t6=>U.asBool t6
 (U.asAgg b1 fun us7=>if 7 = sizes (us7.take 7) then (us7[7]?).bind fun e8=>U.asVar false 1 e8 fun e9=>U.asInt x3 fun n10=>U.elemAt 2 e9 n10 fun e11=>U.asVar true 2 e11 fun e12=>if storable (.val e12) = true ∧ e12.size = 2 then U.asAgg e12 fun us13=>if 0 = sizes (us13.take 0) then (us13[0]?).bind fun e14=>U.asVar false 1 e14 fun e15=>(E 6 [e15,(.int .i64 0),(.int .i64 5)]).bind fun t16=>(U.un .not t16).bind fun t17=>U.asBool t17
 (some (.bool false))
 (U.asAgg e12 fun us18=>if 1 = sizes (us18.take 1) then (us18[1]?).bind fun e19=>U.asVar false 1 e19 fun e20=>(E 6 [e20,(.int .i64 0),(.int .i64 999)]).bind fun t21=>(U.un .not t21).bind fun t22=>U.asBool t22
 (some (.bool false))
 ((U.bin .gtr x3 (.int .i64 0)).bind fun t23=>U.asBool t23
 (U.asAgg b1 fun us24=>if 7 = sizes (us24.take 7) then (us24[7]?).bind fun e25=>U.asVar false 1 e25 fun e26=>(U.bin .sub x3 (.int .i64 1)).bind fun t27=>U.asInt t27 fun n28=>U.elemAt 2 e26 n28 fun e29=>U.asVar true 2 e29 fun e30=>U.asVar true 2 e12 fun e31=>(E 71 [e30,e31]).bind fun t32=>(U.un .not t32).bind fun t33=>U.asBool t33
 (some (.bool false))
 ((U.bin .add x3 (.int .i64 1)).bind fun t34=>f127_l1 E t34 b1) else none)
 ((U.bin .add x3 (.int .i64 1)).bind fun t35=>f127_l1 E t35 b1)) else none) else none else none else none)
 (f127_l0 E (.int .i64 0) b1) else none:=(Qf E _ _ _ _).trans (by kernel_rfl)
theorem Qk1 (E:Env) (x5:U) (b1:U):f127_l0 E x5 b1 =
 U.asAgg b1 fun us36=>if 8 = sizes (us36.take 8) then (us36[8]?).bind fun e37=>U.asVar false 1 e37 fun e38=>(U.lenOf false e38).bind fun n39=>(U.bin .lss x5 (.int .i64 (n39:Int))).bind fun t40=>U.asBool t40
 (U.asAgg b1 fun us41=>if 8 = sizes (us41.take 8) then (us41[8]?).bind fun e42=>U.asVar false 1 e42 fun e43=>U.asInt x5 fun n44=>U.elemAt 2 e43 n44 fun e45=>U.asVar true 2 e45 fun e46=>if storable (.val e46) = true ∧ e46.size = 2 then U.asAgg e46 fun us47=>if 0 = sizes (us47.take 0) then (us47[0]?).bind fun e48=>U.asVar false 1 e48 fun e49=>(E 6 [e49,(.int .i64 0),(.int .i64 5)]).bind fun t50=>(U.un .not t50).bind fun t51=>U.asBool t51
 (some (.bool false))
 (U.asAgg e46 fun us52=>if 1 = sizes (us52.take 1) then (us52[1]?).bind fun e53=>U.asVar false 1 e53 fun e54=>(E 6 [e54,(.int .i64 (-1)),(.int .i64 99)]).bind fun t55=>(U.un .not t55).bind fun t56=>U.asBool t56
 (some (.bool false))
 ((U.bin .gtr x5 (.int .i64 0)).bind fun t57=>U.asBool t57
 (U.asAgg b1 fun us58=>if 8 = sizes (us58.take 8) then (us58[8]?).bind fun e59=>U.asVar false 1 e59 fun e60=>(U.bin .sub x5 (.int .i64 1)).bind fun t61=>U.asInt t61 fun n62=>U.elemAt 2 e60 n62 fun e63=>U.fieldAt 0 0 e63 fun f64=>U.asVar false 1 f64 fun e65=>U.asAgg e46 fun us66=>if 0 = sizes (us66.take 0) then (us66[0]?).bind fun e67=>U.asVar false 1 e67 fun e68=>(U.bin .geq e65 e68).bind fun t69=>U.asBool t69
 (some (.bool false))
 ((U.bin .add x5 (.int .i64 1)).bind fun t70=>f127_l0 E t70 b1) else none else none)
 ((U.bin .add x5 (.int .i64 1)).bind fun t71=>f127_l0 E t71 b1)) else none) else none else none else none)
 (U.asAgg b1 fun us72=>if 0 = sizes (us72.take 0) then (us72[0]?).bind fun e73=>U.asVar false 1 e73 fun e74=>(E 6 [e74,(.int .i64 1),(.int .i64 9)]).bind fun t75=>(U.un .not t75).bind fun t76=>U.asBool t76
 (some (.bool false))
 (U.asAgg b1 fun us77=>if 1 = sizes (us77.take 1) then (us77[1]?).bind fun e78=>U.asVar false 1 e78 fun e79=>(E 6 [e79,(.int .i64 1),(.int .i64 4)]).bind fun t80=>(U.un .not t80).bind fun t81=>U.asBool t81
 (some (.bool false))
 (U.asAgg b1 fun us82=>if 3 = sizes (us82.take 3) then (us82[3]?).bind fun e83=>U.asVar false 1 e83 fun e84=>(E 6 [e84,(.int .i64 0),(.int .i64 999)]).bind fun t85=>(U.un .not t85).bind fun t86=>U.asBool t86
 (some (.bool false))
 (U.asAgg b1 fun us87=>if 2 = sizes (us87.take 2) then (us87[2]?).bind fun e88=>U.asVar false 1 e88 fun e89=>(E 6 [e89,(.int .i64 1),(.int .i64 3)]).bind fun t90=>U.asBool t90
 (U.asAgg b1 fun us91=>if 4 = sizes (us91.take 4) then (us91[4]?).bind fun e92=>U.asVar false 1 e92 fun e93=>(E 6 [e93,(.int .i64 0),(.int .i64 999)]).bind fun t94=>U.asBool t94
 (U.asAgg b1 fun us95=>if 5 = sizes (us95.take 5) then (us95[5]?).bind fun e96=>U.asVar false 1 e96 fun e97=>(E 6 [e97,(.int .i64 1),(.int .i64 1000)]).bind fun t98=>U.asBool t98
 (U.asAgg b1 fun us99=>if 2 = sizes (us99.take 2) then (us99[2]?).bind fun e100=>U.asVar false 1 e100 fun e101=>(U.bin .eql e101 (.int .i64 2)).bind fun t102=>U.asAgg b1 fun us103=>if 6 = sizes (us103.take 6) then (us103[6]?).bind fun e104=>U.asVar false 1 e104 fun e105=>(U.bin .gtr e105 (.int .i64 0)).bind fun t106=>(U.eqv 0 t102 t106).bind fun q107=>U.asBool (.bool q107)
 (U.asAgg b1 fun us108=>if 6 = sizes (us108.take 6) then (us108[6]?).bind fun e109=>U.asVar false 1 e109 fun e110=>(E 6 [e110,(.int .i64 0),(.int .i64 999)]).bind fun t111=>U.asBool t111
 (U.asAgg b1 fun us112=>if 7 = sizes (us112.take 7) then (us112[7]?).bind fun e113=>U.asVar false 1 e113 fun e114=>(U.lenOf false e114).bind fun n115=>(U.bin .leq (.int .i64 (n115:Int)) (.int .i64 60)).bind fun t116=>some t116 else none)
 (some (.bool false)) else none)
 (some (.bool false)) else none else none)
 (some (.bool false)) else none)
 (some (.bool false)) else none)
 (some (.bool false)) else none) else none) else none) else none) else none:=(Qf E _ _ _ _).trans (by kernel_rfl)
structure G_f127 (E:Env):Prop where
 is:Is E 70 1 f127_ac [(2,none)]
 c_f133:G_f133 E
 c_f134:G_f134 E
theorem Qvn {E:Env} (h:G_f127 E) (a0:U):E 70 [a0] =
 U.noTup a0 fun x1=>f127_l1 E (.int .i64 0) x1:=(h.is _ rfl).trans ((Qa rfl).trans (by kernel_rfl))
def f122_b0:AC :=
 (.seq (.seq (rg [oo 6 (.mv (.t 5)),
 oo 7 (.mv (.t 0)),
 oo 8 (.len false (.t 7)),
 oo 9 (.bin .lss (.t 6) (.t 8))])
 (.cond (.t 9) .skip (.exit 0)))
 (.seq (.block 1 (.seq (rg [oo 12 (.mv (.t 0)),
 oo 13 (.mv (.t 5)),
 oo 14 (.iaddr 5 (.t 12) (.t 13)),
 oo 15 (.faddr 2 2 (.t 14)),
 oo 16 (.load false 1 (.t 15)),
 oo 17 (.mv (.t 1)),
 oo 18 (.bin .eql (.t 16) (.t 17))])
 (.cond (.t 18) (.seq (rg [oo 19 (.mv (.t 5)),
 oo 4 (.mv (.t 19))])
 .ret) .skip)))
 (rg [oo 10 (.mv (.t 5)),
 oo 11 (.bin .add (.t 10) (ci 1)),
 oo 5 (.mv (.t 11))])))
def f122_r0:AC :=
 (.seq (rg [oo 4 (.mv (ci (-1)))])
 .ret)
def f122_ac:AC :=
 (.seq (rg [oo 4 (.mv (ci 0))])
 (.seq (.seq (rg [oo 5 (.mv (ci 0))])
 (.block 0 (.loop ⟨[0,1,5],[],[]⟩ f122_b0)))
 f122_r0))
noncomputable def f122_l0 (E:Env) (x0:U) (x1:U) (x5:U):Option U:=loopK (roundOf E ⟨[0,1,5],[],[]⟩ f122_b0 (blockK 0 (seqK (fun s=>exec E f122_r0 s (finish [(4,none)])) (finish [(4,none)])))) ([.val x0,.val x1,.val x5],[])
theorem Qkq (E:Env) (x0:U) (x1:U) (x5:U):f122_l0 E x0 x1 x5 =
 (U.lenOf false x0).bind fun n1=>(U.bin .lss x5 (.int .i64 (n1:Int))).bind fun t2=>U.asBool t2
 (U.asInt x5 fun n3=>U.elemAt 5 x0 n3 fun e4=>U.fieldAt 2 2 e4 fun f5=>U.asVar false 1 f5 fun e6=>(U.bin .eql e6 x1).bind fun t7=>U.asBool t7
 (some x5)
 ((U.bin .add x5 (.int .i64 1)).bind fun t8=>f122_l0 E x0 x1 t8))
 (some (.int .i64 (-1))):=(Qf E _ _ _ _).trans (by kernel_rfl)
structure G_f122 (E:Env):Prop where
 is:Is E 140 2 f122_ac [(4,none)]
theorem Qva {E:Env} (h:G_f122 E) (a0 a1:U):E 140 [a0,a1] =
 f122_l0 E a0 a1 (.int .i64 0):=(h.is _ rfl).trans ((Qa rfl).trans (by kernel_rfl))
def f130_b0:AC :=
 (.seq (.seq (rg [oo 14 (.mv (.t 5)),
 oo 15 (.faddr 7 7 (.t 3)),
 oo 16 (.load false 1 (.t 15)),
 oo 17 (.len false (.t 16)),
 oo 18 (.bin .lss (.t 14) (.t 17))])
 (.cond (.t 18) .skip (.exit 0)))
 (.seq (.block 1 (.seq (.region 18 [oo 21 (.faddr 0 0 (.t 2)),
 oo 22 (.load false 1 (.t 21)),
 oo 23 (.faddr 7 7 (.t 3)),
 oo 24 (.load false 1 (.t 23)),
 oo 25 (.mv (.t 5)),
 oo 26 (.iaddr 2 (.t 24) (.t 25)),
 oo 27 (.faddr 0 0 (.t 26)),
 oo 28 (.load false 1 (.t 27)),
 oo 29 (.iaddr 1 (.t 22) (.t 28)),
 oo 30 (.load false 1 (.t 29)),
 oo 31 (.faddr 7 7 (.t 3)),
 oo 32 (.load false 1 (.t 31)),
 oo 33 (.mv (.t 5)),
 oo 34 (.iaddr 2 (.t 32) (.t 33)),
 oo 35 (.faddr 1 1 (.t 34)),
 oo 36 (.load false 1 (.t 35)),
 oo 37 (.call false 140 [(.t 30),(.t 36)]),
 oo 38 (.bin .lss (.t 37) (ci 0))])
 (.cond (.t 38) (.seq (rg [oo 4 (.mv (.c (.bool false)))])
 .ret) .skip)))
 (rg [oo 19 (.mv (.t 5)),
 oo 20 (.bin .add (.t 19) (ci 1)),
 oo 5 (.mv (.t 20))])))
def f130_r0:AC :=
 (.seq (rg [oo 4 (.mv (.c (.bool true)))])
 .ret)
def f130_ac:AC :=
 (.seq (rg [oo 2 (.box false 2 (.t 0)),
 oo 3 (.box false 3 (.t 1)),
 oo 4 (.mv (.c (.bool false)))])
 (.seq (.seq (rg [oo 6 (.load true 1 (.t 2)),
 oo 7 (.call false 103 [(.t 6)]),
 oo 8 (.un .not (.t 7)),
 oo 9 (.mv (.t 8)),
 ⟨some 10,.load true 9 (.t 3),some (9,false)⟩,
 ⟨some 11,.call false 70 [(.t 10)],some (9,false)⟩,
 ⟨some 12,.un .not (.t 11),some (9,false)⟩,
 oo 13 (.pick (.t 9) (.c (.bool true)) (.t 12))])
 (.cond (.t 13) (.seq (rg [oo 4 (.mv (.c (.bool false)))])
 .ret) .skip))
 (.seq (.seq (rg [oo 5 (.mv (ci 0))])
 (.block 0 (.loop ⟨[2,3,5],[],[(2,false),(3,false)]⟩ f130_b0)))
 f130_r0)))
noncomputable def f130_l0 (E:Env) (x5:U) (b2:U) (b3:U):Option U:=loopK (roundOf E ⟨[2,3,5],[],[(2,false),(3,false)]⟩ f130_b0 (blockK 0 (seqK (fun s=>exec E f130_r0 s (finish [(4,none)])) (finish [(4,none)])))) ([.ptr 2 [],.ptr 3 [],.val x5],[.box (.val b2),.box (.val b3)])
theorem Qk8 (E:Env) (x5:U) (b2:U) (b3:U):f130_l0 E x5 b2 b3 =
 U.asAgg b3 fun us9=>if 7 = sizes (us9.take 7) then (us9[7]?).bind fun e10=>U.asVar false 1 e10 fun e11=>(U.lenOf false e11).bind fun n12=>(U.bin .lss x5 (.int .i64 (n12:Int))).bind fun t13=>U.asBool t13
 (U.asAgg b2 fun us14=>if 0 = sizes (us14.take 0) then (us14[0]?).bind fun e15=>U.asVar false 1 e15 fun e16=>U.asAgg b3 fun us17=>if 7 = sizes (us17.take 7) then (us17[7]?).bind fun e18=>U.asVar false 1 e18 fun e19=>U.asInt x5 fun n20=>U.elemAt 2 e19 n20 fun e21=>U.fieldAt 0 0 e21 fun f22=>U.asVar false 1 f22 fun e23=>U.asInt e23 fun n24=>U.elemAt 1 e16 n24 fun e25=>U.asVar false 1 e25 fun e26=>U.asAgg b3 fun us27=>if 7 = sizes (us27.take 7) then (us27[7]?).bind fun e28=>U.asVar false 1 e28 fun e29=>U.asInt x5 fun n30=>U.elemAt 2 e29 n30 fun e31=>U.fieldAt 1 1 e31 fun f32=>U.asVar false 1 f32 fun e33=>(E 140 [e26,e33]).bind fun t34=>(U.bin .lss t34 (.int .i64 0)).bind fun t35=>U.asBool t35
 (some (.bool false))
 ((U.bin .add x5 (.int .i64 1)).bind fun t36=>f130_l0 E t36 b2 b3) else none else none else none)
 (some (.bool true)) else none:=(Qf E _ _ _ _).trans (by kernel_rfl)
structure G_f130 (E:Env):Prop where
 is:Is E 136 2 f130_ac [(4,none)]
 c_f126:G_f126 E
 c_f127:G_f127 E
 c_f122:G_f122 E
theorem Qvv {E:Env} (h:G_f130 E) (a0 a1:U):E 136 [a0,a1] =
 U.noTup a0 fun x1=>U.noTup a1 fun x2=>U.asVar true 1 x1 fun e3=>(E 103 [e3]).bind fun t4=>(U.un .not t4).bind fun t5=>U.asBool t5
 (some (.bool false))
 (U.asVar true 9 x2 fun e6=>(E 70 [e6]).bind fun t7=>(U.un .not t7).bind fun t8=>U.asBool t8
 (some (.bool false))
 (f130_l0 E (.int .i64 0) x1 x2)):=(h.is _ rfl).trans ((Qa rfl).trans (by kernel_rfl))
def f121_b0:AC :=
 (.seq (.seq (rg [oo 6 (.mv (.t 5)),
 oo 7 (.faddr 2 2 (.t 2)),
 oo 8 (.load false 1 (.t 7)),
 oo 9 (.len false (.t 8)),
 oo 10 (.bin .lss (.t 6) (.t 9))])
 (.cond (.t 10) .skip (.exit 0)))
 (.seq (.block 1 (.seq (rg [oo 13 (.faddr 2 2 (.t 2)),
 oo 14 (.load false 1 (.t 13)),
 oo 15 (.mv (.t 5)),
 oo 16 (.iaddr 9 (.t 14) (.t 15)),
 oo 17 (.faddr 0 0 (.t 16)),
 oo 18 (.load false 1 (.t 17)),
 oo 19 (.mv (.t 1)),
 oo 20 (.bin .eql (.t 18) (.t 19))])
 (.cond (.t 20) (.seq (rg [oo 21 (.mv (.t 5)),
 oo 4 (.mv (.t 21))])
 .ret) .skip)))
 (rg [oo 11 (.mv (.t 5)),
 oo 12 (.bin .add (.t 11) (ci 1)),
 oo 5 (.mv (.t 12))])))
def f121_r0:AC :=
 (.seq (rg [oo 4 (.mv (ci (-1)))])
 .ret)
def f121_ac:AC :=
 (.seq (rg [oo 2 (.box false 2 (.t 0)),
 oo 4 (.mv (ci 0))])
 (.seq (.seq (rg [oo 5 (.mv (ci 0))])
 (.block 0 (.loop ⟨[1,2,5],[],[(2,false)]⟩ f121_b0)))
 f121_r0))
noncomputable def f121_l0 (E:Env) (x1:U) (x5:U) (b2:U):Option U:=loopK (roundOf E ⟨[1,2,5],[],[(2,false)]⟩ f121_b0 (blockK 0 (seqK (fun s=>exec E f121_r0 s (finish [(4,none)])) (finish [(4,none)])))) ([.val x1,.ptr 2 [],.val x5],[.box (.val b2)])
theorem Qko (E:Env) (x1:U) (x5:U) (b2:U):f121_l0 E x1 x5 b2 =
 U.asAgg b2 fun us2=>if 2 = sizes (us2.take 2) then (us2[2]?).bind fun e3=>U.asVar false 1 e3 fun e4=>(U.lenOf false e4).bind fun n5=>(U.bin .lss x5 (.int .i64 (n5:Int))).bind fun t6=>U.asBool t6
 (U.asAgg b2 fun us7=>if 2 = sizes (us7.take 2) then (us7[2]?).bind fun e8=>U.asVar false 1 e8 fun e9=>U.asInt x5 fun n10=>U.elemAt 9 e9 n10 fun e11=>U.fieldAt 0 0 e11 fun f12=>U.asVar false 1 f12 fun e13=>(U.bin .eql e13 x1).bind fun t14=>U.asBool t14
 (some x5)
 ((U.bin .add x5 (.int .i64 1)).bind fun t15=>f121_l0 E x1 t15 b2) else none)
 (some (.int .i64 (-1))) else none:=(Qf E _ _ _ _).trans (by kernel_rfl)
structure G_f121 (E:Env):Prop where
 is:Is E 141 2 f121_ac [(4,none)]
theorem Qu7 {E:Env} (h:G_f121 E) (a0 a1:U):E 141 [a0,a1] =
 U.noTup a0 fun x1=>f121_l0 E a1 (.int .i64 0) x1:=(h.is _ rfl).trans ((Qa rfl).trans (by kernel_rfl))
def f131_ac:AC :=
 (.seq (rg [oo 2 (.box false 2 (.t 0)),
 oo 4 (.mv (.c (.bool false)))])
 (.seq (rg [oo 6 (.load true 6 (.t 2)),
 oo 7 (.mv (.t 1)),
 oo 8 (.call false 141 [(.t 6),(.t 7)]),
 oo 5 (.mv (.t 8))])
 (.seq (rg [oo 9 (.mv (.t 5)),
 oo 10 (.bin .geq (.t 9) (ci 0)),
 oo 11 (.mv (.t 10)),
 ⟨some 12,.faddr 2 2 (.t 2),some (11,true)⟩,
 ⟨some 13,.load false 1 (.t 12),some (11,true)⟩,
 ⟨some 14,.mv (.t 5),some (11,true)⟩,
 ⟨some 15,.iaddr 9 (.t 13) (.t 14),some (11,true)⟩,
 ⟨some 16,.faddr 2 2 (.t 15),some (11,true)⟩,
 ⟨some 17,.load false 1 (.t 16),some (11,true)⟩,
 ⟨some 18,.bin .eql (.t 17) (ci 1),some (11,true)⟩,
 oo 19 (.pick (.t 11) (.t 18) (.c (.bool false))),
 oo 4 (.mv (.t 19))])
 .ret)))
structure G_f131 (E:Env):Prop where
 is:Is E 135 2 f131_ac [(4,none)]
 c_f121:G_f121 E
theorem Qvy {E:Env} (h:G_f131 E) (a0 a1:U):E 135 [a0,a1] =
 U.noTup a0 fun x1=>U.asVar true 6 x1 fun e2=>(E 141 [e2,a1]).bind fun t3=>(U.bin .geq t3 (.int .i64 0)).bind fun t4=>U.asBool t4
 (U.asAgg x1 fun us5=>if 2 = sizes (us5.take 2) then (us5[2]?).bind fun e6=>U.asVar false 1 e6 fun e7=>U.asInt t3 fun n8=>U.elemAt 9 e7 n8 fun e9=>U.fieldAt 2 2 e9 fun f10=>U.asVar false 1 f10 fun e11=>(U.bin .eql e11 (.int .i64 1)).bind fun t12=>some t12 else none)
 (some (.bool false)):=(h.is _ rfl).trans ((Qa rfl).trans (by kernel_rfl))
def f125_b2:AC :=
 (.seq (.seq (rg [oo 38 (.mv (.t 3)),
 oo 39 (.faddr 2 2 (.t 1)),
 oo 40 (.load false 1 (.t 39)),
 oo 41 (.len false (.t 40)),
 oo 42 (.bin .lss (.t 38) (.t 41))])
 (.cond (.t 42) .skip (.exit 0)))
 (.seq (.block 1 (.seq (rg [oo 45 (.faddr 2 2 (.t 1)),
 oo 46 (.load false 1 (.t 45)),
 oo 47 (.mv (.t 3)),
 oo 48 (.iaddr 9 (.t 46) (.t 47)),
 oo 49 (.load true 9 (.t 48)),
 oo 4 (.alloc 4 (.agg [(.int .i64 0),(.int .i64 0),(.int .i64 0),(.int .i64 0),(.int .i64 0),(.int .i64 0),(.int .i64 0),(.nsl 2),(.nsl 2)])),
 ⟨none,.store 9 (.t 4) (.t 49),none⟩])
 (.seq (.region 45 [oo 50 (.load true 9 (.t 4)),
 oo 51 (.call false 70 [(.t 50)]),
 oo 52 (.un .not (.t 51)),
 oo 53 (.mv (.t 52)),
 ⟨some 54,.mv (.t 3),some (53,false)⟩,
 ⟨some 55,.bin .gtr (.t 54) (ci 0),some (53,false)⟩,
 ⟨some 56,.mv (.t 55),some (53,false)⟩,
 ⟨some 57,.faddr 2 2 (.t 1),some (56,true)⟩,
 ⟨some 58,.load false 1 (.t 57),some (56,true)⟩,
 ⟨some 59,.mv (.t 3),some (56,true)⟩,
 ⟨some 60,.bin .sub (.t 59) (ci 1),some (56,true)⟩,
 ⟨some 61,.iaddr 9 (.t 58) (.t 60),some (56,true)⟩,
 ⟨some 62,.faddr 0 0 (.t 61),some (56,true)⟩,
 ⟨some 63,.load false 1 (.t 62),some (56,true)⟩,
 ⟨some 64,.faddr 0 0 (.t 4),some (56,true)⟩,
 ⟨some 65,.load false 1 (.t 64),some (56,true)⟩,
 ⟨some 66,.bin .geq (.t 63) (.t 65),some (56,true)⟩,
 ⟨some 67,.pick (.t 56) (.t 66) (.c (.bool false)),some (53,false)⟩,
 oo 68 (.pick (.t 53) (.c (.bool true)) (.t 67)),
 oo 69 (.mv (.t 68)),
 ⟨some 70,.faddr 3 3 (.t 4),some (69,false)⟩,
 ⟨some 71,.load false 1 (.t 70),some (69,false)⟩,
 ⟨some 72,.faddr 5 5 (.t 1),some (69,false)⟩,
 ⟨some 73,.load false 1 (.t 72),some (69,false)⟩,
 ⟨some 74,.bin .gtr (.t 71) (.t 73),some (69,false)⟩,
 oo 75 (.pick (.t 69) (.c (.bool true)) (.t 74)),
 oo 76 (.mv (.t 75)),
 ⟨some 77,.faddr 6 6 (.t 4),some (76,false)⟩,
 ⟨some 78,.load false 1 (.t 77),some (76,false)⟩,
 ⟨some 79,.faddr 5 5 (.t 1),some (76,false)⟩,
 ⟨some 80,.load false 1 (.t 79),some (76,false)⟩,
 ⟨some 81,.bin .gtr (.t 78) (.t 80),some (76,false)⟩,
 oo 82 (.pick (.t 76) (.c (.bool true)) (.t 81)),
 oo 83 (.mv (.t 82)),
 ⟨some 84,.faddr 2 2 (.t 4),some (83,false)⟩,
 ⟨some 85,.load false 1 (.t 84),some (83,false)⟩,
 ⟨some 86,.bin .eql (.t 85) (ci 1),some (83,false)⟩,
 ⟨some 87,.mv (.t 86),some (83,false)⟩,
 ⟨some 88,.faddr 1 1 (.t 1),some (87,true)⟩,
 ⟨some 89,.load true 1 (.t 88),some (87,true)⟩,
 ⟨some 90,.load true 9 (.t 4),some (87,true)⟩,
 ⟨some 91,.call false 136 [(.t 89),(.t 90)],some (87,true)⟩,
 ⟨some 92,.un .not (.t 91),some (87,true)⟩,
 ⟨some 93,.pick (.t 87) (.t 92) (.c (.bool false)),some (83,false)⟩,
 oo 94 (.pick (.t 83) (.c (.bool true)) (.t 93))])
 (.cond (.t 94) (.seq (rg [oo 2 (.mv (.c (.bool false)))])
 .ret) .skip))))
 (rg [oo 43 (.mv (.t 3)),
 oo 44 (.bin .add (.t 43) (ci 1)),
 oo 3 (.mv (.t 44))])))
def f125_b1:AC :=
 (.seq (.seq (rg [oo 95 (.mv (.t 5)),
 oo 96 (.faddr 3 3 (.t 1)),
 oo 97 (.load false 1 (.t 96)),
 oo 98 (.len false (.t 97)),
 oo 99 (.bin .lss (.t 95) (.t 98))])
 (.cond (.t 99) .skip (.exit 2)))
 (.seq (.block 3 (.seq (.region 9 [oo 102 (.load true 6 (.t 1)),
 oo 103 (.faddr 3 3 (.t 1)),
 oo 104 (.load false 1 (.t 103)),
 oo 105 (.mv (.t 5)),
 oo 106 (.iaddr 2 (.t 104) (.t 105)),
 oo 107 (.faddr 1 1 (.t 106)),
 oo 108 (.load false 1 (.t 107)),
 oo 109 (.call false 135 [(.t 102),(.t 108)]),
 oo 110 (.un .not (.t 109))])
 (.cond (.t 110) (.seq (rg [oo 2 (.mv (.c (.bool false)))])
 .ret) .skip)))
 (rg [oo 100 (.mv (.t 5)),
 oo 101 (.bin .add (.t 100) (ci 1)),
 oo 5 (.mv (.t 101))])))
def f125_b0:AC :=
 (.seq (.seq (rg [oo 111 (.mv (.t 6)),
 oo 112 (.faddr 4 4 (.t 1)),
 oo 113 (.load false 1 (.t 112)),
 oo 114 (.len false (.t 113)),
 oo 115 (.bin .lss (.t 111) (.t 114))])
 (.cond (.t 115) .skip (.exit 4)))
 (.seq (.block 5 (.seq (.region 20 [oo 118 (.load true 6 (.t 1)),
 oo 119 (.faddr 4 4 (.t 1)),
 oo 120 (.load false 1 (.t 119)),
 oo 121 (.mv (.t 6)),
 oo 122 (.iaddr 2 (.t 120) (.t 121)),
 oo 123 (.faddr 0 0 (.t 122)),
 oo 124 (.load false 1 (.t 123)),
 oo 125 (.call false 135 [(.t 118),(.t 124)]),
 oo 126 (.un .not (.t 125)),
 oo 127 (.mv (.t 126)),
 ⟨some 128,.load true 6 (.t 1),some (127,false)⟩,
 ⟨some 129,.faddr 4 4 (.t 1),some (127,false)⟩,
 ⟨some 130,.load false 1 (.t 129),some (127,false)⟩,
 ⟨some 131,.mv (.t 6),some (127,false)⟩,
 ⟨some 132,.iaddr 2 (.t 130) (.t 131),some (127,false)⟩,
 ⟨some 133,.faddr 1 1 (.t 132),some (127,false)⟩,
 ⟨some 134,.load false 1 (.t 133),some (127,false)⟩,
 ⟨some 135,.call false 135 [(.t 128),(.t 134)],some (127,false)⟩,
 ⟨some 136,.un .not (.t 135),some (127,false)⟩,
 oo 137 (.pick (.t 127) (.c (.bool true)) (.t 136))])
 (.cond (.t 137) (.seq (rg [oo 2 (.mv (.c (.bool false)))])
 .ret) .skip)))
 (rg [oo 116 (.mv (.t 6)),
 oo 117 (.bin .add (.t 116) (ci 1)),
 oo 6 (.mv (.t 117))])))
def f125_r0:AC :=
 (.seq (rg [oo 2 (.mv (.c (.bool true)))])
 .ret)
def f125_r1:AC :=
 (.seq (.seq (rg [oo 6 (.mv (ci 0))])
 (.block 4 (.loop ⟨[1,6],[],[(1,false)]⟩ f125_b0)))
 f125_r0)
def f125_r2:AC :=
 (.seq (.seq (rg [oo 5 (.mv (ci 0))])
 (.block 2 (.loop ⟨[1,5],[],[(1,false)]⟩ f125_b1)))
 f125_r1)
def f125_ac:AC :=
 (.seq (rg [oo 1 (.box false 1 (.t 0)),
 oo 2 (.mv (.c (.bool false)))])
 (.seq (.seq (.region 31 [oo 7 (.faddr 1 1 (.t 1)),
 oo 8 (.load true 1 (.t 7)),
 oo 9 (.call false 103 [(.t 8)]),
 oo 10 (.un .not (.t 9)),
 oo 11 (.mv (.t 10)),
 ⟨some 12,.faddr 3 3 (.t 1),some (11,false)⟩,
 ⟨some 13,.load false 1 (.t 12),some (11,false)⟩,
 ⟨some 14,.call false 137 [(.t 13)],some (11,false)⟩,
 ⟨some 15,.un .not (.t 14),some (11,false)⟩,
 oo 16 (.pick (.t 11) (.c (.bool true)) (.t 15)),
 oo 17 (.mv (.t 16)),
 ⟨some 18,.faddr 4 4 (.t 1),some (17,false)⟩,
 ⟨some 19,.load false 1 (.t 18),some (17,false)⟩,
 ⟨some 20,.call false 138 [(.t 19)],some (17,false)⟩,
 ⟨some 21,.un .not (.t 20),some (17,false)⟩,
 oo 22 (.pick (.t 17) (.c (.bool true)) (.t 21)),
 oo 23 (.mv (.t 22)),
 ⟨some 24,.faddr 5 5 (.t 1),some (23,false)⟩,
 ⟨some 25,.load false 1 (.t 24),some (23,false)⟩,
 ⟨some 26,.faddr 1 1 (.t 1),some (23,false)⟩,
 ⟨some 27,.load true 1 (.t 26),some (23,false)⟩,
 ⟨some 28,.call false 139 [(.t 27)],some (23,false)⟩,
 ⟨some 29,.call false 6 [(.t 25),(.t 28),(ci 999)],some (23,false)⟩,
 ⟨some 30,.un .not (.t 29),some (23,false)⟩,
 oo 31 (.pick (.t 23) (.c (.bool true)) (.t 30)),
 oo 32 (.mv (.t 31)),
 ⟨some 33,.faddr 2 2 (.t 1),some (32,false)⟩,
 ⟨some 34,.load false 1 (.t 33),some (32,false)⟩,
 ⟨some 35,.len false (.t 34),some (32,false)⟩,
 ⟨some 36,.bin .gtr (.t 35) (ci 6),some (32,false)⟩,
 oo 37 (.pick (.t 32) (.c (.bool true)) (.t 36))])
 (.cond (.t 37) (.seq (rg [oo 2 (.mv (.c (.bool false)))])
 .ret) .skip))
 (.seq (.seq (rg [oo 3 (.mv (ci 0))])
 (.block 0 (.loop ⟨[1,3],[],[(1,false)]⟩ f125_b2)))
 f125_r2)))
noncomputable def f125_l2 (E:Env) (x3:U) (b1:U):Option U:=loopK (roundOf E ⟨[1,3],[],[(1,false)]⟩ f125_b2 (blockK 0 (seqK (fun s=>exec E f125_r2 s (finish [(2,none)])) (finish [(2,none)])))) ([.ptr 1 [],.val x3],[.box (.val b1)])
noncomputable def f125_l1 (E:Env) (x5:U) (b1:U):Option U:=loopK (roundOf E ⟨[1,5],[],[(1,false)]⟩ f125_b1 (blockK 2 (seqK (fun s=>exec E f125_r1 s (finish [(2,none)])) (finish [(2,none)])))) ([.ptr 1 [],.val x5],[.box (.val b1)])
noncomputable def f125_l0 (E:Env) (x6:U) (b1:U):Option U:=loopK (roundOf E ⟨[1,6],[],[(1,false)]⟩ f125_b0 (blockK 4 (seqK (fun s=>exec E f125_r0 s (finish [(2,none)])) (finish [(2,none)])))) ([.ptr 1 [],.val x6],[.box (.val b1)])
theorem Qky (E:Env) (x3:U) (b1:U):f125_l2 E x3 b1 =
 U.asAgg b1 fun us31=>if 2 = sizes (us31.take 2) then (us31[2]?).bind fun e32=>U.asVar false 1 e32 fun e33=>(U.lenOf false e33).bind fun n34=>(U.bin .lss x3 (.int .i64 (n34:Int))).bind fun t35=>U.asBool t35
 (U.asAgg b1 fun us36=>if 2 = sizes (us36.take 2) then (us36[2]?).bind fun e37=>U.asVar false 1 e37 fun e38=>U.asInt x3 fun n39=>U.elemAt 9 e38 n39 fun e40=>U.asVar true 9 e40 fun e41=>if storable (.val e41) = true ∧ e41.size = 9 then U.asVar true 9 e41 fun e42=>(E 70 [e42]).bind fun t43=>(U.un .not t43).bind fun t44=>U.asBool t44
 (some (.bool false))
 ((U.bin .gtr x3 (.int .i64 0)).bind fun t45=>U.asBool t45
 (U.asAgg b1 fun us46=>if 2 = sizes (us46.take 2) then (us46[2]?).bind fun e47=>U.asVar false 1 e47 fun e48=>(U.bin .sub x3 (.int .i64 1)).bind fun t49=>U.asInt t49 fun n50=>U.elemAt 9 e48 n50 fun e51=>U.fieldAt 0 0 e51 fun f52=>U.asVar false 1 f52 fun e53=>U.asAgg e41 fun us54=>if 0 = sizes (us54.take 0) then (us54[0]?).bind fun e55=>U.asVar false 1 e55 fun e56=>(U.bin .geq e53 e56).bind fun t57=>U.asBool t57
 (some (.bool false))
 (U.asAgg e41 fun us58=>if 3 = sizes (us58.take 3) then (us58[3]?).bind fun e59=>U.asVar false 1 e59 fun e60=>U.asAgg b1 fun us61=>if 5 = sizes (us61.take 5) then (us61[5]?).bind fun e62=>U.asVar false 1 e62 fun e63=>(U.bin .gtr e60 e63).bind fun t64=>U.asBool t64
 (some (.bool false))
 (U.asAgg e41 fun us65=>if 6 = sizes (us65.take 6) then (us65[6]?).bind fun e66=>U.asVar false 1 e66 fun e67=>U.asAgg b1 fun us68=>if 5 = sizes (us68.take 5) then (us68[5]?).bind fun e69=>U.asVar false 1 e69 fun e70=>(U.bin .gtr e67 e70).bind fun t71=>U.asBool t71
 (some (.bool false))
 (U.asAgg e41 fun us72=>if 2 = sizes (us72.take 2) then (us72[2]?).bind fun e73=>U.asVar false 1 e73 fun e74=>(U.bin .eql e74 (.int .i64 1)).bind fun t75=>U.asBool t75
 (U.asAgg b1 fun us76=>if 1 = sizes (us76.take 1) then (us76[1]?).bind fun e77=>U.asVar true 1 e77 fun e78=>U.asVar true 9 e41 fun e79=>(E 136 [e78,e79]).bind fun t80=>(U.un .not t80).bind fun t81=>U.asBool t81
 (some (.bool false))
 ((U.bin .add x3 (.int .i64 1)).bind fun t82=>f125_l2 E t82 b1) else none)
 ((U.bin .add x3 (.int .i64 1)).bind fun t83=>f125_l2 E t83 b1) else none) else none else none) else none else none) else none else none)
 (U.asAgg e41 fun us84=>if 3 = sizes (us84.take 3) then (us84[3]?).bind fun e85=>U.asVar false 1 e85 fun e86=>U.asAgg b1 fun us87=>if 5 = sizes (us87.take 5) then (us87[5]?).bind fun e88=>U.asVar false 1 e88 fun e89=>(U.bin .gtr e86 e89).bind fun t90=>U.asBool t90
 (some (.bool false))
 (U.asAgg e41 fun us91=>if 6 = sizes (us91.take 6) then (us91[6]?).bind fun e92=>U.asVar false 1 e92 fun e93=>U.asAgg b1 fun us94=>if 5 = sizes (us94.take 5) then (us94[5]?).bind fun e95=>U.asVar false 1 e95 fun e96=>(U.bin .gtr e93 e96).bind fun t97=>U.asBool t97
 (some (.bool false))
 (U.asAgg e41 fun us98=>if 2 = sizes (us98.take 2) then (us98[2]?).bind fun e99=>U.asVar false 1 e99 fun e100=>(U.bin .eql e100 (.int .i64 1)).bind fun t101=>U.asBool t101
 (U.asAgg b1 fun us102=>if 1 = sizes (us102.take 1) then (us102[1]?).bind fun e103=>U.asVar true 1 e103 fun e104=>U.asVar true 9 e41 fun e105=>(E 136 [e104,e105]).bind fun t106=>(U.un .not t106).bind fun t107=>U.asBool t107
 (some (.bool false))
 ((U.bin .add x3 (.int .i64 1)).bind fun t108=>f125_l2 E t108 b1) else none)
 ((U.bin .add x3 (.int .i64 1)).bind fun t109=>f125_l2 E t109 b1) else none) else none else none) else none else none)) else none else none)
 (f125_l1 E (.int .i64 0) b1) else none:=(Qf E _ _ _ _).trans (by kernel_rfl)
theorem Qkx (E:Env) (x5:U) (b1:U):f125_l1 E x5 b1 =
 U.asAgg b1 fun us110=>if 3 = sizes (us110.take 3) then (us110[3]?).bind fun e111=>U.asVar false 1 e111 fun e112=>(U.lenOf false e112).bind fun n113=>(U.bin .lss x5 (.int .i64 (n113:Int))).bind fun t114=>U.asBool t114
 (U.asVar true 6 b1 fun e115=>U.asAgg b1 fun us116=>if 3 = sizes (us116.take 3) then (us116[3]?).bind fun e117=>U.asVar false 1 e117 fun e118=>U.asInt x5 fun n119=>U.elemAt 2 e118 n119 fun e120=>U.fieldAt 1 1 e120 fun f121=>U.asVar false 1 f121 fun e122=>(E 135 [e115,e122]).bind fun t123=>(U.un .not t123).bind fun t124=>U.asBool t124
 (some (.bool false))
 ((U.bin .add x5 (.int .i64 1)).bind fun t125=>f125_l1 E t125 b1) else none)
 (f125_l0 E (.int .i64 0) b1) else none:=(Qf E _ _ _ _).trans (by kernel_rfl)
theorem Qkw (E:Env) (x6:U) (b1:U):f125_l0 E x6 b1 =
 U.asAgg b1 fun us126=>if 4 = sizes (us126.take 4) then (us126[4]?).bind fun e127=>U.asVar false 1 e127 fun e128=>(U.lenOf false e128).bind fun n129=>(U.bin .lss x6 (.int .i64 (n129:Int))).bind fun t130=>U.asBool t130
 (U.asVar true 6 b1 fun e131=>U.asAgg b1 fun us132=>if 4 = sizes (us132.take 4) then (us132[4]?).bind fun e133=>U.asVar false 1 e133 fun e134=>U.asInt x6 fun n135=>U.elemAt 2 e134 n135 fun e136=>U.fieldAt 0 0 e136 fun f137=>U.asVar false 1 f137 fun e138=>(E 135 [e131,e138]).bind fun t139=>(U.un .not t139).bind fun t140=>U.asBool t140
 (some (.bool false))
 (U.asVar true 6 b1 fun e141=>U.asAgg b1 fun us142=>if 4 = sizes (us142.take 4) then (us142[4]?).bind fun e143=>U.asVar false 1 e143 fun e144=>U.asInt x6 fun n145=>U.elemAt 2 e144 n145 fun e146=>U.fieldAt 1 1 e146 fun f147=>U.asVar false 1 f147 fun e148=>(E 135 [e141,e148]).bind fun t149=>(U.un .not t149).bind fun t150=>U.asBool t150
 (some (.bool false))
 ((U.bin .add x6 (.int .i64 1)).bind fun t151=>f125_l0 E t151 b1) else none) else none)
 (some (.bool true)) else none:=(Qf E _ _ _ _).trans (by kernel_rfl)
structure G_f125 (E:Env):Prop where
 is:Is E 133 1 f125_ac [(2,none)]
 c_f126:G_f126 E
 c_f119:G_f119 E
 c_f120:G_f120 E
 c_f133:G_f133 E
 c_f129:G_f129 E
 c_f127:G_f127 E
 c_f130:G_f130 E
 c_f131:G_f131 E
theorem Qvi {E:Env} (h:G_f125 E) (a0:U):E 133 [a0] =
 U.noTup a0 fun x1=>U.asAgg x1 fun us2=>if 1 = sizes (us2.take 1) then (us2[1]?).bind fun e3=>U.asVar true 1 e3 fun e4=>(E 103 [e4]).bind fun t5=>(U.un .not t5).bind fun t6=>U.asBool t6
 (some (.bool false))
 (U.asAgg x1 fun us7=>if 3 = sizes (us7.take 3) then (us7[3]?).bind fun e8=>U.asVar false 1 e8 fun e9=>(E 137 [e9]).bind fun t10=>(U.un .not t10).bind fun t11=>U.asBool t11
 (some (.bool false))
 (U.asAgg x1 fun us12=>if 4 = sizes (us12.take 4) then (us12[4]?).bind fun e13=>U.asVar false 1 e13 fun e14=>(E 138 [e14]).bind fun t15=>(U.un .not t15).bind fun t16=>U.asBool t16
 (some (.bool false))
 (U.asAgg x1 fun us17=>if 5 = sizes (us17.take 5) then (us17[5]?).bind fun e18=>U.asVar false 1 e18 fun e19=>U.asAgg x1 fun us20=>if 1 = sizes (us20.take 1) then (us20[1]?).bind fun e21=>U.asVar true 1 e21 fun e22=>(E 139 [e22]).bind fun t23=>(E 6 [e19,t23,(.int .i64 999)]).bind fun t24=>(U.un .not t24).bind fun t25=>U.asBool t25
 (some (.bool false))
 (U.asAgg x1 fun us26=>if 2 = sizes (us26.take 2) then (us26[2]?).bind fun e27=>U.asVar false 1 e27 fun e28=>(U.lenOf false e28).bind fun n29=>(U.bin .gtr (.int .i64 (n29:Int)) (.int .i64 6)).bind fun t30=>U.asBool t30
 (some (.bool false))
 (f125_l2 E (.int .i64 0) x1) else none) else none else none) else none) else none) else none:=(h.is _ rfl).trans ((Qa rfl).trans (by kernel_rfl))
def f132_r0:AC :=
 .ret
def f132_ac:AC :=
 (.seq (rg [oo 1 (.box false 1 (.t 0)),
 oo 2 (.alloc 2 (.agg [(.int .i64 0),(.int .i64 0),(.nsl 2),(.nsl 2)]))])
 (.seq (.regD 12 [7,10,11,14] [(4,7),(7,11),(8,11)] [2,4,6,10,14] [1,2,10,14] [oo 3 (.faddr 0 0 (.t 1)),
 oo 4 (.load false 1 (.t 3)),
 oo 5 (.faddr 1 1 (.t 1)),
 oo 6 (.load false 1 (.t 5)),
 oo 7 (.bslice 1 7 2 0 (.agg [(.int .i64 0),(.int .i64 0)]) []),
 oo 8 (.faddr 2 2 (.t 1)),
 oo 9 (.load false 1 (.t 8)),
 oo 10 (.append false 10 2 16 (.t 7) (.t 9)),
 oo 11 (.bslice 1 11 2 0 (.agg [(.int .i64 0),(.int .i64 0)]) []),
 oo 12 (.faddr 3 3 (.t 1)),
 oo 13 (.load false 1 (.t 12)),
 oo 14 (.append false 14 2 16 (.t 11) (.t 13)),
 oo 15 (.build [(.int .i64 0),(.int .i64 0),(.nsl 2),(.nsl 2)] [(0,(.t 4)),(1,(.t 6)),(2,(.t 10)),(3,(.t 14))]),
 ⟨none,.storeM 3000 4 (.t 2) (.t 15),none⟩])
 f132_r0))
theorem Qv1 (E:Env) (a0:U):run E f132_ac [(2,some (true,4))] [a0] =
 U.noTup a0 fun x1=>U.asAgg x1 fun us20=>if 0 = sizes (us20.take 0) then (us20[0]?).bind fun e21=>U.asVar false 1 e21 fun e22=>U.asAgg x1 fun us23=>if 1 = sizes (us23.take 1) then (us23[1]?).bind fun e24=>U.asVar false 1 e24 fun e25=>U.asAgg x1 fun us26=>if 2 = sizes (us26.take 2) then (us26[2]?).bind fun e27=>U.asVar false 1 e27 fun e28=>U.asAgg x1 fun us29=>if 3 = sizes (us29.take 3) then (us29[3]?).bind fun e30=>U.asVar false 1 e30 fun e31=>(U.elems 2 e28).bind fun ys32=>if 2 = 2 ∧ 2 = 2 ∧ ((([]:List U)).length + (ys32:List U).length) * 16 ≤ 140737488355328 then (U.elems 2 e31).bind fun ys33=>if 2 = 2 ∧ 2 = 2 ∧ ((([]:List U)).length + (ys33:List U).length) * 16 ≤ 140737488355328 then if partable (.val e22) = true ∧ e22.size = 1 then if partable (.val e25) = true ∧ e25.size = 1 then U.noTup e22 fun x34=>U.noTup e25 fun x35=>if (.agg [.val x34,.val x35,.asl 2 (([]:List U) ++ ys32),.asl 2 (([]:List U) ++ ys33)]:D).size = 4 then U.asVar true 4 (.agg [x34,x35,(.sl 2 (([]:List U) ++ ys32)),(.sl 2 (([]:List U) ++ ys33))]) fun e36=>some e36 else none else none else none else none else none else none else none else none else none :=
 by
 refine Eq.trans (b:=U.noTup a0 fun x1=>((U.asAgg x1 fun us2=>if 0 = sizes (us2.take 0) then (us2[0]?).bind fun e3=>U.asVar false 1 e3 fun e4=>U.asAgg x1 fun us5=>if 1 = sizes (us5.take 1) then (us5[1]?).bind fun e6=>U.asVar false 1 e6 fun e7=>U.asAgg x1 fun us8=>if 2 = sizes (us8.take 2) then (us8[2]?).bind fun e9=>U.asVar false 1 e9 fun e10=>U.asAgg x1 fun us11=>if 3 = sizes (us11.take 3) then (us11[3]?).bind fun e12=>U.asVar false 1 e12 fun e13=>meet (meet ((U.elems 2 e10).bind fun ys14=>if 2 = 2 ∧ 2 = 2 ∧ ((([]:List U)).length + (ys14:List U).length) * 16 ≤ 140737488355328 then (U.elems 2 e13).bind fun ys15=>if 2 = 2 ∧ 2 = 2 ∧ ((([]:List U)).length + (ys15:List U).length) * 16 ≤ 140737488355328 then some ([.ptr 2 [],.val e4,.val e7,.ref 10 [] 2 none,.ref 14 [] 2 none],[some (.box (.val x1)),some (.box (.val (.agg [(.int .i64 0),(.int .i64 0),(.nsl 2),(.nsl 2)]))),some (.vir (.asl 2 (([]:List U) ++ ys14))),some (.vir (.asl 2 (([]:List U) ++ ys15)))]) else none else none) ((U.elems 2 e10).bind fun ys16=>if 2 = 2 ∧ 2 = 2 ∧ ((([]:List U)).length + (ys16:List U).length) * 16 ≤ 140737488355328 then (U.elems 2 e13).bind fun ys17=>if 2 = 2 ∧ 2 = 2 ∧ ((([]:List U)).length + (ys17:List U).length) * 16 ≤ 140737488355328 then some ([.ptr 2 [],.val e4,.val e7,.ref 10 [] 2 none,.ref 14 [] 2 none],[some (.box (.val x1)),some (.box (.val (.agg [(.int .i64 0),(.int .i64 0),(.nsl 2),(.nsl 2)]))),some (.vir (.asl 2 (([]:List U) ++ ys16))),some (.vir (.asl 2 (([]:List U) ++ ys17)))]) else none else none)) ((U.elems 2 e10).bind fun ys18=>if 2 = 2 ∧ 2 = 2 ∧ ((([]:List U)).length + (ys18:List U).length) * 16 ≤ 140737488355328 then (U.elems 2 e13).bind fun ys19=>if 2 = 2 ∧ 2 = 2 ∧ ((([]:List U)).length + (ys19:List U).length) * 16 ≤ 140737488355328 then some ([.ptr 2 [],.val e4,.val e7,.ref 10 [] 2 none,.ref 14 [] 2 none],[some (.box (.val x1)),some (.box (.val (.agg [(.int .i64 0),(.int .i64 0),(.nsl 2),(.nsl 2)]))),some (.vir (.asl 2 (([]:List U) ++ ys18))),some (.vir (.asl 2 (([]:List U) ++ ys19)))]) else none else none) else none else none else none else none).bind fun p=>execOps false E [oo 15 (.build [(.int .i64 0),(.int .i64 0),(.nsl 2),(.nsl 2)] [(0,(.t 4)),(1,(.t 6)),(2,(.t 10)),(3,(.t 14))]),
 ⟨none,.storeM 3000 4 (.t 2) (.t 15),none⟩] (unpackS [2,4,6,10,14] [1,2,10,14] p) ((seqK (fun s=>exec E f132_r0 s (finish [(2,some (true,4))])) (finish [(2,some (true,4))])) .normal))) (by kernel_rfl) ?_
 simp only [Qo7,Qei,Qbk,Qcw,Qr9,Qr8,Qab3,Option.bind_assoc,Option.bind_some]
 kernel_rfl
structure G_f132 (E:Env):Prop where
 is:Is E 290 1 f132_ac [(2,some (true,4))]
theorem Qv0 {E:Env} (h:G_f132 E) (a0:U):E 290 [a0] =
 U.noTup a0 fun x1=>U.asAgg x1 fun us20=>if 0 = sizes (us20.take 0) then (us20[0]?).bind fun e21=>U.asVar false 1 e21 fun e22=>U.asAgg x1 fun us23=>if 1 = sizes (us23.take 1) then (us23[1]?).bind fun e24=>U.asVar false 1 e24 fun e25=>U.asAgg x1 fun us26=>if 2 = sizes (us26.take 2) then (us26[2]?).bind fun e27=>U.asVar false 1 e27 fun e28=>U.asAgg x1 fun us29=>if 3 = sizes (us29.take 3) then (us29[3]?).bind fun e30=>U.asVar false 1 e30 fun e31=>(U.elems 2 e28).bind fun ys32=>if 2 = 2 ∧ 2 = 2 ∧ ((([]:List U)).length + (ys32:List U).length) * 16 ≤ 140737488355328 then (U.elems 2 e31).bind fun ys33=>if 2 = 2 ∧ 2 = 2 ∧ ((([]:List U)).length + (ys33:List U).length) * 16 ≤ 140737488355328 then if partable (.val e22) = true ∧ e22.size = 1 then if partable (.val e25) = true ∧ e25.size = 1 then U.noTup e22 fun x34=>U.noTup e25 fun x35=>if (.agg [.val x34,.val x35,.asl 2 (([]:List U) ++ ys32),.asl 2 (([]:List U) ++ ys33)]:D).size = 4 then U.asVar true 4 (.agg [x34,x35,(.sl 2 (([]:List U) ++ ys32)),(.sl 2 (([]:List U) ++ ys33))]) fun e36=>some e36 else none else none else none else none else none else none else none else none else none:=(h.is _ rfl).trans ((Qa rfl).trans (Qv1 E a0))
def f123_b1:AC :=
 (.seq (.seq (rg [oo 18 (.mv (.t 5)),
 oo 19 (.faddr 2 2 (.t 1)),
 oo 20 (.load false 1 (.t 19)),
 oo 21 (.len false (.t 20)),
 oo 22 (.bin .lss (.t 18) (.t 21))])
 (.cond (.t 22) .skip (.exit 2)))
 (.seq (.block 3 (.seq (rg [oo 25 (.faddr 2 2 (.t 1)),
 oo 26 (.load false 1 (.t 25)),
 oo 27 (.mv (.t 5)),
 oo 28 (.iaddr 9 (.t 26) (.t 27)),
 oo 29 (.load true 9 (.t 28)),
 oo 6 (.alloc 6 (.agg [(.int .i64 0),(.int .i64 0),(.int .i64 0),(.int .i64 0),(.int .i64 0),(.int .i64 0),(.int .i64 0),(.nsl 2),(.nsl 2)])),
 ⟨none,.store 9 (.t 6) (.t 29),none⟩])
 (.seq (rg [oo 30 (.faddr 2 2 (.t 6)),
 oo 31 (.load false 1 (.t 30)),
 oo 32 (.bin .eql (.t 31) (ci 2)),
 oo 33 (.mv (.t 32)),
 ⟨some 34,.faddr 6 6 (.t 6),some (33,true)⟩,
 ⟨some 35,.load false 1 (.t 34),some (33,true)⟩,
 ⟨some 36,.mv (.t 4),some (33,true)⟩,
 ⟨some 37,.bin .eql (.t 35) (.t 36),some (33,true)⟩,
 oo 38 (.pick (.t 33) (.t 37) (.c (.bool false)))])
 (.cond (.t 38) (rg [oo 39 (.mv (.t 3)),
 oo 40 (.faddr 0 0 (.t 6)),
 oo 41 (.load false 1 (.t 40)),
 oo 42 (.mv (.t 4)),
 oo 43 (.faddr 7 7 (.t 6)),
 oo 44 (.load false 1 (.t 43)),
 oo 45 (.faddr 8 8 (.t 6)),
 oo 46 (.load false 1 (.t 45)),
 oo 47 (.build [(.int .i64 0),(.int .i64 0),(.nsl 2),(.nsl 2)] [(0,(.t 41)),(1,(.t 42)),(2,(.t 44)),(3,(.t 46))]),
 oo 48 (.call false 290 [(.t 47)]),
 oo 49 (.bslice 0 49 4 1 (.agg [(.int .i64 0),(.int .i64 0),(.nsl 2),(.nsl 2)]) [(0,(.t 48))]),
 oo 50 (.append false 50 4 64 (.t 39) (.t 49)),
 oo 3 (.mv (.t 50))]) .skip))))
 (rg [oo 23 (.mv (.t 5)),
 oo 24 (.bin .add (.t 23) (ci 1)),
 oo 5 (.mv (.t 24))])))
def f123_r0:AC :=
 (rg [oo 16 (.mv (.t 4)),
 oo 17 (.bin .add (.t 16) (ci 1)),
 oo 4 (.mv (.t 17))])
def f123_b0:AC :=
 (.seq (.seq (rg [oo 12 (.mv (.t 4)),
 oo 13 (.faddr 5 5 (.t 1)),
 oo 14 (.load false 1 (.t 13)),
 oo 15 (.bin .leq (.t 12) (.t 14))])
 (.cond (.t 15) .skip (.exit 0)))
 (.seq (.block 1 (.seq (rg [oo 5 (.mv (ci 0))])
 (.block 2 (.loop ⟨[1,4,5],[(3,4,false)],[(1,false)]⟩ f123_b1))))
 f123_r0))
def f123_r1:AC :=
 (.seq (rg [oo 51 (.mv (.t 3)),
 oo 2 (.mv (.t 51))])
 .ret)
def f123_ac:AC :=
 (.seq (rg [oo 1 (.box false 1 (.t 0)),
 oo 2 (.mv (.c (.nsl 4)))])
 (.seq (rg [oo 7 (.bslice 1 7 4 0 (.agg [(.int .i64 0),(.int .i64 0),(.nsl 2),(.nsl 2)]) []),
 oo 3 (.mv (.t 7))])
 (.seq (.seq (rg [oo 8 (.load true 6 (.t 1)),
 oo 9 (.call false 133 [(.t 8)]),
 oo 10 (.un .not (.t 9))])
 (.cond (.t 10) (.seq (rg [oo 11 (.mv (.t 3)),
 oo 2 (.mv (.t 11))])
 .ret) .skip))
 (.seq (.seq (rg [oo 4 (.mv (ci 1))])
 (.block 0 (.loop ⟨[1,4],[(3,4,false)],[(1,false)]⟩ f123_b0)))
 f123_r1))))
noncomputable def f123_l0 (E:Env) (x4:U) (c3:List U) (b1:U):Option U:=loopK (roundOf E ⟨[1,4],[(3,4,false)],[(1,false)]⟩ f123_b0 (blockK 0 (seqK (fun s=>exec E f123_r1 s (finish [(2,none)])) (finish [(2,none)])))) ([.ptr 1 [],.val x4],[.vir (.asl 4 c3),.box (.val b1)])
noncomputable def f123_l1 (E:Env) (x4:U) (x5:U) (c3:List U) (b1:U):Option U:=loopK (roundOf E ⟨[1,4,5],[(3,4,false)],[(1,false)]⟩ f123_b1 (blockK 2 (blockK 1 (seqK (fun s=>exec E f123_r0 s (roundK ⟨[1,4],[(3,4,false)],[(1,false)]⟩ (loopK (roundOf E ⟨[1,4],[(3,4,false)],[(1,false)]⟩ f123_b0 (blockK 0 (seqK (fun s=>exec E f123_r1 s (finish [(2,none)])) (finish [(2,none)]))))) (blockK 0 (seqK (fun s=>exec E f123_r1 s (finish [(2,none)])) (finish [(2,none)]))))) (roundK ⟨[1,4],[(3,4,false)],[(1,false)]⟩ (loopK (roundOf E ⟨[1,4],[(3,4,false)],[(1,false)]⟩ f123_b0 (blockK 0 (seqK (fun s=>exec E f123_r1 s (finish [(2,none)])) (finish [(2,none)]))))) (blockK 0 (seqK (fun s=>exec E f123_r1 s (finish [(2,none)])) (finish [(2,none)])))))))) ([.ptr 1 [],.val x4,.val x5],[.vir (.asl 4 c3),.box (.val b1)])
theorem Qks (E:Env) (x4:U) (c3:List U) (b1:U):f123_l0 E x4 c3 b1 =
 U.asAgg b1 fun us5=>if 5 = sizes (us5.take 5) then (us5[5]?).bind fun e6=>U.asVar false 1 e6 fun e7=>(U.bin .leq x4 e7).bind fun t8=>U.asBool t8
 (f123_l1 E x4 (.int .i64 0) c3 b1)
 (some (.sl 4 c3)) else none:=(Qf E _ _ _ _).trans (by kernel_rfl)
theorem Qkt (E:Env) (x4:U) (x5:U) (c3:List U) (b1:U):f123_l1 E x4 x5 c3 b1 =
 U.asAgg b1 fun us9=>if 2 = sizes (us9.take 2) then (us9[2]?).bind fun e10=>U.asVar false 1 e10 fun e11=>(U.lenOf false e11).bind fun n12=>(U.bin .lss x5 (.int .i64 (n12:Int))).bind fun t13=>U.asBool t13
 (U.asAgg b1 fun us14=>if 2 = sizes (us14.take 2) then (us14[2]?).bind fun e15=>U.asVar false 1 e15 fun e16=>U.asInt x5 fun n17=>U.elemAt 9 e16 n17 fun e18=>U.asVar true 9 e18 fun e19=>if storable (.val e19) = true ∧ e19.size = 9 then U.asAgg e19 fun us20=>if 2 = sizes (us20.take 2) then (us20[2]?).bind fun e21=>U.asVar false 1 e21 fun e22=>(U.bin .eql e22 (.int .i64 2)).bind fun t23=>U.asBool t23
 (U.asAgg e19 fun us24=>if 6 = sizes (us24.take 6) then (us24[6]?).bind fun e25=>U.asVar false 1 e25 fun e26=>(U.bin .eql e26 x4).bind fun t27=>U.asBool t27
 (U.asAgg e19 fun us28=>if 0 = sizes (us28.take 0) then (us28[0]?).bind fun e29=>U.asVar false 1 e29 fun e30=>U.asAgg e19 fun us31=>if 7 = sizes (us31.take 7) then (us31[7]?).bind fun e32=>U.asVar false 1 e32 fun e33=>U.asAgg e19 fun us34=>if 8 = sizes (us34.take 8) then (us34[8]?).bind fun e35=>U.asVar false 1 e35 fun e36=>if partable (.val e30) = true ∧ e30.size = 1 then if partable (.val x4) = true ∧ x4.size = 1 then if partable (.val e33) = true ∧ e33.size = 1 then if partable (.val e36) = true ∧ e36.size = 1 then (E 290 [(.agg [e30,x4,e33,e36])]).bind fun t37=>if partable (.val t37) = true ∧ t37.size = 4 then if 4 = 4 ∧ 4 = 4 ∧ ((c3).length + ([t37]:List U).length) * 64 ≤ 140737488355328 then (U.bin .add x5 (.int .i64 1)).bind fun t38=>f123_l1 E x4 t38 (c3 ++ ([t37]:List U)) b1 else none else none else none else none else none else none else none else none else none)
 ((U.bin .add x5 (.int .i64 1)).bind fun t39=>f123_l1 E x4 t39 c3 b1) else none)
 ((U.bin .add x5 (.int .i64 1)).bind fun t40=>f123_l1 E x4 t40 c3 b1) else none else none else none)
 ((U.bin .add x4 (.int .i64 1)).bind fun t41=>f123_l0 E t41 c3 b1) else none:=(Qf E _ _ _ _).trans (by kernel_rfl)
structure G_f123 (E:Env):Prop where
 is:Is E 470 1 f123_ac [(2,none)]
 c_f125:G_f125 E
 c_f132:G_f132 E
theorem Qvd {E:Env} (h:G_f123 E) (a0:U):E 470 [a0] =
 U.noTup a0 fun x1=>U.asVar true 6 x1 fun e2=>(E 133 [e2]).bind fun t3=>(U.un .not t3).bind fun t4=>U.asBool t4
 (some (.sl 4 ([]:List U)))
 (f123_l0 E (.int .i64 1) ([]:List U) x1):=(h.is _ rfl).trans ((Qa rfl).trans (by kernel_rfl))
def f96_ac:AC :=
 (.seq (rg [oo 1 (.box false 1 (.t 0)),
 oo 2 (.alloc 2 (.agg [(.int .i64 0),(.int .i64 0),(.int .i64 0),(.int .i64 0),(.int .i64 0)]))])
 (.seq (rg [oo 3 (.alloc 3 (.agg [(.int .i64 0),(.int .i64 0),(.int .i64 0),(.int .i64 0),(.int .i64 0)]))])
 (.seq (rg [oo 4 (.faddr 0 0 (.t 1)),
 oo 5 (.load false 1 (.t 4)),
 oo 6 (.faddr 0 0 (.t 3)),
 ⟨none,.store 1 (.t 6) (.t 5),none⟩])
 (.seq (rg [oo 7 (.faddr 1 1 (.t 1)),
 oo 8 (.load false 1 (.t 7)),
 oo 9 (.faddr 1 1 (.t 3)),
 ⟨none,.store 1 (.t 9) (.t 8),none⟩])
 (.seq (rg [oo 10 (.faddr 2 2 (.t 1)),
 oo 11 (.load false 1 (.t 10)),
 oo 12 (.faddr 2 2 (.t 3)),
 ⟨none,.store 1 (.t 12) (.t 11),none⟩])
 (.seq (rg [oo 13 (.faddr 3 3 (.t 1)),
 oo 14 (.load false 1 (.t 13)),
 oo 15 (.faddr 3 3 (.t 3)),
 ⟨none,.store 1 (.t 15) (.t 14),none⟩])
 (.seq (rg [oo 16 (.faddr 4 4 (.t 1)),
 oo 17 (.load false 1 (.t 16)),
 oo 18 (.faddr 4 4 (.t 3)),
 ⟨none,.store 1 (.t 18) (.t 17),none⟩])
 (.seq (rg [oo 19 (.load true 5 (.t 3)),
 ⟨none,.store 5 (.t 2) (.t 19),none⟩])
 .ret))))))))
structure G_f96 (E:Env):Prop where
 is:Is E 109 1 f96_ac [(2,some (true,5))]
theorem f96_E {E:Env} (h:G_f96 E) (a0:U):E 109 [a0] =
 U.noTup a0 fun x1=>U.asAgg x1 fun us2=>if 0 = sizes (us2.take 0) then (us2[0]?).bind fun e3=>U.asVar false 1 e3 fun e4=>if storable (.val e4) = true ∧ e4.size = 1 then U.asAgg x1 fun us5=>if 1 = sizes (us5.take 1) then (us5[1]?).bind fun e6=>U.asVar false 1 e6 fun e7=>if storable (.val e7) = true ∧ e7.size = 1 then if 1 = sizes [e4] then U.asAgg x1 fun us8=>if 2 = sizes (us8.take 2) then (us8[2]?).bind fun e9=>U.asVar false 1 e9 fun e10=>if storable (.val e10) = true ∧ e10.size = 1 then if 2 = sizes [e4,e7] then U.asAgg x1 fun us11=>if 3 = sizes (us11.take 3) then (us11[3]?).bind fun e12=>U.asVar false 1 e12 fun e13=>if storable (.val e13) = true ∧ e13.size = 1 then if 3 = sizes [e4,e7,e10] then U.asAgg x1 fun us14=>if 4 = sizes (us14.take 4) then (us14[4]?).bind fun e15=>U.asVar false 1 e15 fun e16=>if storable (.val e16) = true ∧ e16.size = 1 then if 4 = sizes [e4,e7,e10,e13] then U.asVar true 5 (.agg [e4,e7,e10,e13,e16]) fun e17=>if storable (.val e17) = true ∧ e17.size = 5 then U.asVar true 5 e17 fun e18=>some e18 else none else none else none else none else none else none else none else none else none else none else none else none else none else none else none:=(h.is _ rfl).trans ((Qa rfl).trans (by kernel_rfl))
def f97_b0:AC :=
 (.seq (.seq (rg [oo 8 (.mv (.t 4)),
 oo 9 (.mv (.t 0)),
 oo 10 (.len false (.t 9)),
 oo 11 (.bin .lss (.t 8) (.t 10))])
 (.cond (.t 11) .skip (.exit 0)))
 (.seq (.block 1 (rg [oo 14 (.mv (.t 3)),
 oo 15 (.mv (.t 4)),
 oo 16 (.mv (.t 0)),
 oo 17 (.mv (.t 4)),
 oo 18 (.iaddr 5 (.t 16) (.t 17)),
 oo 19 (.load true 5 (.t 18)),
 oo 20 (.call false 109 [(.t 19)]),
 oo 21 (.iaddr 5 (.t 14) (.t 15)),
 ⟨none,.store 5 (.t 21) (.t 20),none⟩]))
 (rg [oo 12 (.mv (.t 4)),
 oo 13 (.bin .add (.t 12) (ci 1)),
 oo 4 (.mv (.t 13))])))
def f97_r0:AC :=
 (.seq (rg [oo 22 (.mv (.t 3)),
 oo 2 (.mv (.t 22))])
 .ret)
def f97_ac:AC :=
 (.seq (rg [oo 2 (.mv (.c (.nsl 5)))])
 (.seq (rg [oo 5 (.mv (.t 0)),
 oo 6 (.len false (.t 5)),
 oo 7 (.mkslice 7 5 40 (.agg [(.int .i64 0),(.int .i64 0),(.int .i64 0),(.int .i64 0),(.int .i64 0)]) (.t 6) (.t 6)),
 oo 3 (.mv (.t 7))])
 (.seq (.seq (rg [oo 4 (.mv (ci 0))])
 (.block 0 (.loop ⟨[0,4],[(3,5,false)],[]⟩ f97_b0)))
 f97_r0)))
noncomputable def f97_l0 (E:Env) (x0:U) (x4:U) (c3:List U):Option U:=loopK (roundOf E ⟨[0,4],[(3,5,false)],[]⟩ f97_b0 (blockK 0 (seqK (fun s=>exec E f97_r0 s (finish [(2,none)])) (finish [(2,none)])))) ([.val x0,.val x4],[.vir (.asl 5 c3)])
theorem Qno (E:Env) (x0:U) (x4:U) (c3:List U):f97_l0 E x0 x4 c3 =
 (U.lenOf false x0).bind fun n2=>(U.bin .lss x4 (.int .i64 (n2:Int))).bind fun t3=>U.asBool t3
 (U.asInt x4 fun n4=>U.elemAt 5 x0 n4 fun e5=>U.asVar true 5 e5 fun e6=>(E 109 [e6]).bind fun t7=>U.asInt x4 fun n8=>if 5 = 5 ∧ 0 ≤ n8 ∧ n8 < ((c3).length:Int) then if storable (.val t7) = true ∧ t7.size = 5 then (c3[(n8:Int).toNat]?).bind fun e9=>if e9.size = 5 then (U.bin .add x4 (.int .i64 1)).bind fun t10=>f97_l0 E x0 t10 (c3.set (n8:Int).toNat t7) else none else none else none)
 (some (.sl 5 c3)):=(Qf E _ _ _ _).trans (by kernel_rfl)
structure G_f97 (E:Env):Prop where
 is:Is E 108 1 f97_ac [(2,none)]
 c_f96:G_f96 E
theorem f97_E {E:Env} (h:G_f97 E) (a0:U):E 108 [a0] =
 (U.lenOf false a0).bind fun n1=>if 0 ≤ (n1:Int) ∧ (n1:Int) ≤ (n1:Int) ∧ (n1:Int) * 40 ≤ 140737488355328 ∧ ((.agg [(.int .i64 0),(.int .i64 0),(.int .i64 0),(.int .i64 0),(.int .i64 0)]):U).size = 5 then f97_l0 E a0 (.int .i64 0) (List.replicate ((n1:Int):Int).toNat (.agg [(.int .i64 0),(.int .i64 0),(.int .i64 0),(.int .i64 0),(.int .i64 0)])) else none:=(h.is _ rfl).trans ((Qa rfl).trans (by kernel_rfl))
def f98_b0:AC :=
 (.seq (.seq (rg [oo 8 (.mv (.t 4)),
 oo 9 (.mv (.t 0)),
 oo 10 (.len false (.t 9)),
 oo 11 (.bin .lss (.t 8) (.t 10))])
 (.cond (.t 11) .skip (.exit 0)))
 (.seq (.block 1 (rg [oo 14 (.mv (.t 3)),
 oo 15 (.mv (.t 4)),
 oo 16 (.mv (.t 0)),
 oo 17 (.mv (.t 4)),
 oo 18 (.iaddr 1 (.t 16) (.t 17)),
 oo 19 (.load false 1 (.t 18)),
 oo 20 (.call false 108 [(.t 19)]),
 oo 21 (.iaddr 1 (.t 14) (.t 15)),
 ⟨none,.store 1 (.t 21) (.t 20),none⟩]))
 (rg [oo 12 (.mv (.t 4)),
 oo 13 (.bin .add (.t 12) (ci 1)),
 oo 4 (.mv (.t 13))])))
def f98_r0:AC :=
 (.seq (rg [oo 22 (.mv (.t 3)),
 oo 2 (.mv (.t 22))])
 .ret)
def f98_ac:AC :=
 (.seq (rg [oo 2 (.mv (.c (.nsl 1)))])
 (.seq (rg [oo 5 (.mv (.t 0)),
 oo 6 (.len false (.t 5)),
 oo 7 (.mkslice 7 1 24 (.nsl 5) (.t 6) (.t 6)),
 oo 3 (.mv (.t 7))])
 (.seq (.seq (rg [oo 4 (.mv (ci 0))])
 (.block 0 (.loop ⟨[0,4],[(3,1,false)],[]⟩ f98_b0)))
 f98_r0)))
noncomputable def f98_l0 (E:Env) (x0:U) (x4:U) (c3:List U):Option U:=loopK (roundOf E ⟨[0,4],[(3,1,false)],[]⟩ f98_b0 (blockK 0 (seqK (fun s=>exec E f98_r0 s (finish [(2,none)])) (finish [(2,none)])))) ([.val x0,.val x4],[.vir (.asl 1 c3)])
theorem Qnq (E:Env) (x0:U) (x4:U) (c3:List U):f98_l0 E x0 x4 c3 =
 (U.lenOf false x0).bind fun n2=>(U.bin .lss x4 (.int .i64 (n2:Int))).bind fun t3=>U.asBool t3
 (U.asInt x4 fun n4=>U.elemAt 1 x0 n4 fun e5=>U.asVar false 1 e5 fun e6=>(E 108 [e6]).bind fun t7=>U.asInt x4 fun n8=>if 1 = 1 ∧ 0 ≤ n8 ∧ n8 < ((c3).length:Int) then if storable (.val t7) = true ∧ t7.size = 1 then (c3[(n8:Int).toNat]?).bind fun e9=>if e9.size = 1 then (U.bin .add x4 (.int .i64 1)).bind fun t10=>f98_l0 E x0 t10 (c3.set (n8:Int).toNat t7) else none else none else none)
 (some (.sl 1 c3)):=(Qf E _ _ _ _).trans (by kernel_rfl)
structure G_f98 (E:Env):Prop where
 is:Is E 107 1 f98_ac [(2,none)]
 c_f97:G_f97 E
theorem f98_E {E:Env} (h:G_f98 E) (a0:U):E 107 [a0] =
 (U.lenOf false a0).bind fun n1=>if 0 ≤ (n1:Int) ∧ (n1:Int) ≤ (n1:Int) ∧ (n1:Int) * 24 ≤ 140737488355328 ∧ ((.nsl 5):U).size = 1 then f98_l0 E a0 (.int .i64 0) (List.replicate ((n1:Int):Int).toNat (.nsl 5)) else none:=(h.is _ rfl).trans ((Qa rfl).trans (by kernel_rfl))
def f90_ac:AC :=
 (.seq (rg [oo 1 (.box false 1 (.t 0)),
 oo 2 (.alloc 2 (.agg [(.nsl 1)]))])
 (.seq (rg [oo 3 (.alloc 3 (.agg [(.nsl 1)]))])
 (.seq (rg [oo 4 (.faddr 0 0 (.t 1)),
 oo 5 (.load false 1 (.t 4)),
 oo 6 (.call false 107 [(.t 5)]),
 oo 7 (.faddr 0 0 (.t 3)),
 ⟨none,.store 1 (.t 7) (.t 6),none⟩])
 (.seq (rg [oo 8 (.load true 1 (.t 3)),
 ⟨none,.store 1 (.t 2) (.t 8),none⟩])
 .ret))))
structure G_f90 (E:Env):Prop where
 is:Is E 93 1 f90_ac [(2,some (true,1))]
 c_f98:G_f98 E
theorem f90_E {E:Env} (h:G_f90 E) (a0:U):E 93 [a0] =
 U.noTup a0 fun x1=>U.asAgg x1 fun us2=>if 0 = sizes (us2.take 0) then (us2[0]?).bind fun e3=>U.asVar false 1 e3 fun e4=>(E 107 [e4]).bind fun t5=>if storable (.val t5) = true ∧ t5.size = 1 then U.asVar true 1 (.agg [t5]) fun e6=>if storable (.val e6) = true ∧ e6.size = 1 then U.asVar true 1 e6 fun e7=>some e7 else none else none else none:=(h.is _ rfl).trans ((Qa rfl).trans (by kernel_rfl))
def f87_ac:AC :=
 (.seq (rg [oo 1 (.box false 1 (.t 0)),
 oo 2 (.alloc 2 (.agg [(.int .i64 0),(.int .i64 0)]))])
 (.seq (rg [oo 3 (.alloc 3 (.agg [(.int .i64 0),(.int .i64 0)]))])
 (.seq (rg [oo 4 (.faddr 0 0 (.t 1)),
 oo 5 (.load false 1 (.t 4)),
 oo 6 (.faddr 0 0 (.t 3)),
 ⟨none,.store 1 (.t 6) (.t 5),none⟩])
 (.seq (rg [oo 7 (.faddr 1 1 (.t 1)),
 oo 8 (.load false 1 (.t 7)),
 oo 9 (.faddr 1 1 (.t 3)),
 ⟨none,.store 1 (.t 9) (.t 8),none⟩])
 (.seq (rg [oo 10 (.load true 2 (.t 3)),
 ⟨none,.store 2 (.t 2) (.t 10),none⟩])
 .ret)))))
structure G_f87 (E:Env):Prop where
 is:Is E 29 1 f87_ac [(2,some (true,2))]
theorem f87_E {E:Env} (h:G_f87 E) (a0:U):E 29 [a0] =
 U.noTup a0 fun x1=>U.asAgg x1 fun us2=>if 0 = sizes (us2.take 0) then (us2[0]?).bind fun e3=>U.asVar false 1 e3 fun e4=>if storable (.val e4) = true ∧ e4.size = 1 then U.asAgg x1 fun us5=>if 1 = sizes (us5.take 1) then (us5[1]?).bind fun e6=>U.asVar false 1 e6 fun e7=>if storable (.val e7) = true ∧ e7.size = 1 then if 1 = sizes [e4] then U.asVar true 2 (.agg [e4,e7]) fun e8=>if storable (.val e8) = true ∧ e8.size = 2 then U.asVar true 2 e8 fun e9=>some e9 else none else none else none else none else none else none:=(h.is _ rfl).trans ((Qa rfl).trans (by kernel_rfl))
def f88_b0:AC :=
 (.seq (.seq (rg [oo 8 (.mv (.t 4)),
 oo 9 (.mv (.t 0)),
 oo 10 (.len false (.t 9)),
 oo 11 (.bin .lss (.t 8) (.t 10))])
 (.cond (.t 11) .skip (.exit 0)))
 (.seq (.block 1 (rg [oo 14 (.mv (.t 3)),
 oo 15 (.mv (.t 4)),
 oo 16 (.mv (.t 0)),
 oo 17 (.mv (.t 4)),
 oo 18 (.iaddr 2 (.t 16) (.t 17)),
 oo 19 (.load true 2 (.t 18)),
 oo 20 (.call false 29 [(.t 19)]),
 oo 21 (.iaddr 2 (.t 14) (.t 15)),
 ⟨none,.store 2 (.t 21) (.t 20),none⟩]))
 (rg [oo 12 (.mv (.t 4)),
 oo 13 (.bin .add (.t 12) (ci 1)),
 oo 4 (.mv (.t 13))])))
def f88_r0:AC :=
 (.seq (rg [oo 22 (.mv (.t 3)),
 oo 2 (.mv (.t 22))])
 .ret)
def f88_ac:AC :=
 (.seq (rg [oo 2 (.mv (.c (.nsl 2)))])
 (.seq (rg [oo 5 (.mv (.t 0)),
 oo 6 (.len false (.t 5)),
 oo 7 (.mkslice 7 2 16 (.agg [(.int .i64 0),(.int .i64 0)]) (.t 6) (.t 6)),
 oo 3 (.mv (.t 7))])
 (.seq (.seq (rg [oo 4 (.mv (ci 0))])
 (.block 0 (.loop ⟨[0,4],[(3,2,false)],[]⟩ f88_b0)))
 f88_r0)))
noncomputable def f88_l0 (E:Env) (x0:U) (x4:U) (c3:List U):Option U:=loopK (roundOf E ⟨[0,4],[(3,2,false)],[]⟩ f88_b0 (blockK 0 (seqK (fun s=>exec E f88_r0 s (finish [(2,none)])) (finish [(2,none)])))) ([.val x0,.val x4],[.vir (.asl 2 c3)])
theorem Qnf (E:Env) (x0:U) (x4:U) (c3:List U):f88_l0 E x0 x4 c3 =
 (U.lenOf false x0).bind fun n2=>(U.bin .lss x4 (.int .i64 (n2:Int))).bind fun t3=>U.asBool t3
 (U.asInt x4 fun n4=>U.elemAt 2 x0 n4 fun e5=>U.asVar true 2 e5 fun e6=>(E 29 [e6]).bind fun t7=>U.asInt x4 fun n8=>if 2 = 2 ∧ 0 ≤ n8 ∧ n8 < ((c3).length:Int) then if storable (.val t7) = true ∧ t7.size = 2 then (c3[(n8:Int).toNat]?).bind fun e9=>if e9.size = 2 then (U.bin .add x4 (.int .i64 1)).bind fun t10=>f88_l0 E x0 t10 (c3.set (n8:Int).toNat t7) else none else none else none)
 (some (.sl 2 c3)):=(Qf E _ _ _ _).trans (by kernel_rfl)
structure G_f88 (E:Env):Prop where
 is:Is E 28 1 f88_ac [(2,none)]
 c_f87:G_f87 E
theorem f88_E {E:Env} (h:G_f88 E) (a0:U):E 28 [a0] =
 (U.lenOf false a0).bind fun n1=>if 0 ≤ (n1:Int) ∧ (n1:Int) ≤ (n1:Int) ∧ (n1:Int) * 16 ≤ 140737488355328 ∧ ((.agg [(.int .i64 0),(.int .i64 0)]):U).size = 2 then f88_l0 E a0 (.int .i64 0) (List.replicate ((n1:Int):Int).toNat (.agg [(.int .i64 0),(.int .i64 0)])) else none:=(h.is _ rfl).trans ((Qa rfl).trans (by kernel_rfl))
def f104_ac:AC :=
 (.seq (rg [oo 1 (.box false 1 (.t 0)),
 oo 2 (.alloc 2 (.agg [(.int .i64 0),(.int .i64 0)]))])
 (.seq (rg [oo 3 (.alloc 3 (.agg [(.int .i64 0),(.int .i64 0)]))])
 (.seq (rg [oo 4 (.faddr 0 0 (.t 1)),
 oo 5 (.load false 1 (.t 4)),
 oo 6 (.faddr 0 0 (.t 3)),
 ⟨none,.store 1 (.t 6) (.t 5),none⟩])
 (.seq (rg [oo 7 (.faddr 1 1 (.t 1)),
 oo 8 (.load false 1 (.t 7)),
 oo 9 (.faddr 1 1 (.t 3)),
 ⟨none,.store 1 (.t 9) (.t 8),none⟩])
 (.seq (rg [oo 10 (.load true 2 (.t 3)),
 ⟨none,.store 2 (.t 2) (.t 10),none⟩])
 .ret)))))
structure G_f104 (E:Env):Prop where
 is:Is E 30 1 f104_ac [(2,some (true,2))]
theorem Qtl {E:Env} (h:G_f104 E) (a0:U):E 30 [a0] =
 U.noTup a0 fun x1=>U.asAgg x1 fun us2=>if 0 = sizes (us2.take 0) then (us2[0]?).bind fun e3=>U.asVar false 1 e3 fun e4=>if storable (.val e4) = true ∧ e4.size = 1 then U.asAgg x1 fun us5=>if 1 = sizes (us5.take 1) then (us5[1]?).bind fun e6=>U.asVar false 1 e6 fun e7=>if storable (.val e7) = true ∧ e7.size = 1 then if 1 = sizes [e4] then U.asVar true 2 (.agg [e4,e7]) fun e8=>if storable (.val e8) = true ∧ e8.size = 2 then U.asVar true 2 e8 fun e9=>some e9 else none else none else none else none else none else none:=(h.is _ rfl).trans ((Qa rfl).trans (by kernel_rfl))
def f105_b0:AC :=
 (.seq (.seq (rg [oo 8 (.mv (.t 4)),
 oo 9 (.mv (.t 0)),
 oo 10 (.len false (.t 9)),
 oo 11 (.bin .lss (.t 8) (.t 10))])
 (.cond (.t 11) .skip (.exit 0)))
 (.seq (.block 1 (rg [oo 14 (.mv (.t 3)),
 oo 15 (.mv (.t 4)),
 oo 16 (.mv (.t 0)),
 oo 17 (.mv (.t 4)),
 oo 18 (.iaddr 2 (.t 16) (.t 17)),
 oo 19 (.load true 2 (.t 18)),
 oo 20 (.call false 30 [(.t 19)]),
 oo 21 (.iaddr 2 (.t 14) (.t 15)),
 ⟨none,.store 2 (.t 21) (.t 20),none⟩]))
 (rg [oo 12 (.mv (.t 4)),
 oo 13 (.bin .add (.t 12) (ci 1)),
 oo 4 (.mv (.t 13))])))
def f105_r0:AC :=
 (.seq (rg [oo 22 (.mv (.t 3)),
 oo 2 (.mv (.t 22))])
 .ret)
def f105_ac:AC :=
 (.seq (rg [oo 2 (.mv (.c (.nsl 2)))])
 (.seq (rg [oo 5 (.mv (.t 0)),
 oo 6 (.len false (.t 5)),
 oo 7 (.mkslice 7 2 16 (.agg [(.int .i64 0),(.int .i64 0)]) (.t 6) (.t 6)),
 oo 3 (.mv (.t 7))])
 (.seq (.seq (rg [oo 4 (.mv (ci 0))])
 (.block 0 (.loop ⟨[0,4],[(3,2,false)],[]⟩ f105_b0)))
 f105_r0)))
noncomputable def f105_l0 (E:Env) (x0:U) (x4:U) (c3:List U):Option U:=loopK (roundOf E ⟨[0,4],[(3,2,false)],[]⟩ f105_b0 (blockK 0 (seqK (fun s=>exec E f105_r0 s (finish [(2,none)])) (finish [(2,none)])))) ([.val x0,.val x4],[.vir (.asl 2 c3)])
theorem Qj2 (E:Env) (x0:U) (x4:U) (c3:List U):f105_l0 E x0 x4 c3 =
 (U.lenOf false x0).bind fun n2=>(U.bin .lss x4 (.int .i64 (n2:Int))).bind fun t3=>U.asBool t3
 (U.asInt x4 fun n4=>U.elemAt 2 x0 n4 fun e5=>U.asVar true 2 e5 fun e6=>(E 30 [e6]).bind fun t7=>U.asInt x4 fun n8=>if 2 = 2 ∧ 0 ≤ n8 ∧ n8 < ((c3).length:Int) then if storable (.val t7) = true ∧ t7.size = 2 then (c3[(n8:Int).toNat]?).bind fun e9=>if e9.size = 2 then (U.bin .add x4 (.int .i64 1)).bind fun t10=>f105_l0 E x0 t10 (c3.set (n8:Int).toNat t7) else none else none else none)
 (some (.sl 2 c3)):=(Qf E _ _ _ _).trans (by kernel_rfl)
structure G_f105 (E:Env):Prop where
 is:Is E 27 1 f105_ac [(2,none)]
 c_f104:G_f104 E
theorem Qtn {E:Env} (h:G_f105 E) (a0:U):E 27 [a0] =
 (U.lenOf false a0).bind fun n1=>if 0 ≤ (n1:Int) ∧ (n1:Int) ≤ (n1:Int) ∧ (n1:Int) * 16 ≤ 140737488355328 ∧ ((.agg [(.int .i64 0),(.int .i64 0)]):U).size = 2 then f105_l0 E a0 (.int .i64 0) (List.replicate ((n1:Int):Int).toNat (.agg [(.int .i64 0),(.int .i64 0)])) else none:=(h.is _ rfl).trans ((Qa rfl).trans (by kernel_rfl))
def f92_ac:AC :=
 (.seq (rg [oo 1 (.box false 1 (.t 0)),
 oo 2 (.alloc 2 (.agg [(.int .i64 0),(.int .i64 0),(.int .i64 0),(.int .i64 0),(.int .i64 0),(.int .i64 0),(.int .i64 0),(.nsl 2),(.nsl 2)]))])
 (.seq (rg [oo 3 (.alloc 3 (.agg [(.int .i64 0),(.int .i64 0),(.int .i64 0),(.int .i64 0),(.int .i64 0),(.int .i64 0),(.int .i64 0),(.nsl 2),(.nsl 2)]))])
 (.seq (rg [oo 4 (.faddr 0 0 (.t 1)),
 oo 5 (.load false 1 (.t 4)),
 oo 6 (.faddr 0 0 (.t 3)),
 ⟨none,.store 1 (.t 6) (.t 5),none⟩])
 (.seq (rg [oo 7 (.faddr 1 1 (.t 1)),
 oo 8 (.load false 1 (.t 7)),
 oo 9 (.faddr 1 1 (.t 3)),
 ⟨none,.store 1 (.t 9) (.t 8),none⟩])
 (.seq (rg [oo 10 (.faddr 2 2 (.t 1)),
 oo 11 (.load false 1 (.t 10)),
 oo 12 (.faddr 2 2 (.t 3)),
 ⟨none,.store 1 (.t 12) (.t 11),none⟩])
 (.seq (rg [oo 13 (.faddr 3 3 (.t 1)),
 oo 14 (.load false 1 (.t 13)),
 oo 15 (.faddr 3 3 (.t 3)),
 ⟨none,.store 1 (.t 15) (.t 14),none⟩])
 (.seq (rg [oo 16 (.faddr 4 4 (.t 1)),
 oo 17 (.load false 1 (.t 16)),
 oo 18 (.faddr 4 4 (.t 3)),
 ⟨none,.store 1 (.t 18) (.t 17),none⟩])
 (.seq (rg [oo 19 (.faddr 5 5 (.t 1)),
 oo 20 (.load false 1 (.t 19)),
 oo 21 (.faddr 5 5 (.t 3)),
 ⟨none,.store 1 (.t 21) (.t 20),none⟩])
 (.seq (rg [oo 22 (.faddr 6 6 (.t 1)),
 oo 23 (.load false 1 (.t 22)),
 oo 24 (.faddr 6 6 (.t 3)),
 ⟨none,.store 1 (.t 24) (.t 23),none⟩])
 (.seq (rg [oo 25 (.faddr 7 7 (.t 1)),
 oo 26 (.load false 1 (.t 25)),
 oo 27 (.call false 28 [(.t 26)]),
 oo 28 (.faddr 7 7 (.t 3)),
 ⟨none,.store 1 (.t 28) (.t 27),none⟩])
 (.seq (rg [oo 29 (.faddr 8 8 (.t 1)),
 oo 30 (.load false 1 (.t 29)),
 oo 31 (.call false 27 [(.t 30)]),
 oo 32 (.faddr 8 8 (.t 3)),
 ⟨none,.store 1 (.t 32) (.t 31),none⟩])
 (.seq (rg [oo 33 (.load true 9 (.t 3)),
 ⟨none,.store 9 (.t 2) (.t 33),none⟩])
 .ret))))))))))))
structure G_f92 (E:Env):Prop where
 is:Is E 145 1 f92_ac [(2,some (true,9))]
 c_f88:G_f88 E
 c_f105:G_f105 E
theorem f92_E {E:Env} (h:G_f92 E) (a0:U):E 145 [a0] =
 U.noTup a0 fun x1=>U.asAgg x1 fun us2=>if 0 = sizes (us2.take 0) then (us2[0]?).bind fun e3=>U.asVar false 1 e3 fun e4=>if storable (.val e4) = true ∧ e4.size = 1 then U.asAgg x1 fun us5=>if 1 = sizes (us5.take 1) then (us5[1]?).bind fun e6=>U.asVar false 1 e6 fun e7=>if storable (.val e7) = true ∧ e7.size = 1 then if 1 = sizes [e4] then U.asAgg x1 fun us8=>if 2 = sizes (us8.take 2) then (us8[2]?).bind fun e9=>U.asVar false 1 e9 fun e10=>if storable (.val e10) = true ∧ e10.size = 1 then if 2 = sizes [e4,e7] then U.asAgg x1 fun us11=>if 3 = sizes (us11.take 3) then (us11[3]?).bind fun e12=>U.asVar false 1 e12 fun e13=>if storable (.val e13) = true ∧ e13.size = 1 then if 3 = sizes [e4,e7,e10] then U.asAgg x1 fun us14=>if 4 = sizes (us14.take 4) then (us14[4]?).bind fun e15=>U.asVar false 1 e15 fun e16=>if storable (.val e16) = true ∧ e16.size = 1 then if 4 = sizes [e4,e7,e10,e13] then U.asAgg x1 fun us17=>if 5 = sizes (us17.take 5) then (us17[5]?).bind fun e18=>U.asVar false 1 e18 fun e19=>if storable (.val e19) = true ∧ e19.size = 1 then if 5 = sizes [e4,e7,e10,e13,e16] then U.asAgg x1 fun us20=>if 6 = sizes (us20.take 6) then (us20[6]?).bind fun e21=>U.asVar false 1 e21 fun e22=>if storable (.val e22) = true ∧ e22.size = 1 then if 6 = sizes [e4,e7,e10,e13,e16,e19] then U.asAgg x1 fun us23=>if 7 = sizes (us23.take 7) then (us23[7]?).bind fun e24=>U.asVar false 1 e24 fun e25=>(E 28 [e25]).bind fun t26=>if storable (.val t26) = true ∧ t26.size = 1 then if 7 = sizes [e4,e7,e10,e13,e16,e19,e22] then U.asAgg x1 fun us27=>if 8 = sizes (us27.take 8) then (us27[8]?).bind fun e28=>U.asVar false 1 e28 fun e29=>(E 27 [e29]).bind fun t30=>if storable (.val t30) = true ∧ t30.size = 1 then if 8 = sizes [e4,e7,e10,e13,e16,e19,e22,t26] then U.asVar true 9 (.agg [e4,e7,e10,e13,e16,e19,e22,t26,t30]) fun e31=>if storable (.val e31) = true ∧ e31.size = 9 then U.asVar true 9 e31 fun e32=>some e32 else none else none else none else none else none else none else none else none else none else none else none else none else none else none else none else none else none else none else none else none else none else none else none else none else none else none else none:=(h.is _ rfl).trans ((Qa rfl).trans (by kernel_rfl))
def f93_b0:AC :=
 (.seq (.seq (rg [oo 8 (.mv (.t 4)),
 oo 9 (.mv (.t 0)),
 oo 10 (.len false (.t 9)),
 oo 11 (.bin .lss (.t 8) (.t 10))])
 (.cond (.t 11) .skip (.exit 0)))
 (.seq (.block 1 (rg [oo 14 (.mv (.t 3)),
 oo 15 (.mv (.t 4)),
 oo 16 (.mv (.t 0)),
 oo 17 (.mv (.t 4)),
 oo 18 (.iaddr 9 (.t 16) (.t 17)),
 oo 19 (.load true 9 (.t 18)),
 oo 20 (.call false 145 [(.t 19)]),
 oo 21 (.iaddr 9 (.t 14) (.t 15)),
 ⟨none,.store 9 (.t 21) (.t 20),none⟩]))
 (rg [oo 12 (.mv (.t 4)),
 oo 13 (.bin .add (.t 12) (ci 1)),
 oo 4 (.mv (.t 13))])))
def f93_r0:AC :=
 (.seq (rg [oo 22 (.mv (.t 3)),
 oo 2 (.mv (.t 22))])
 .ret)
def f93_ac:AC :=
 (.seq (rg [oo 2 (.mv (.c (.nsl 9)))])
 (.seq (rg [oo 5 (.mv (.t 0)),
 oo 6 (.len false (.t 5)),
 oo 7 (.mkslice 7 9 104 (.agg [(.int .i64 0),(.int .i64 0),(.int .i64 0),(.int .i64 0),(.int .i64 0),(.int .i64 0),(.int .i64 0),(.nsl 2),(.nsl 2)]) (.t 6) (.t 6)),
 oo 3 (.mv (.t 7))])
 (.seq (.seq (rg [oo 4 (.mv (ci 0))])
 (.block 0 (.loop ⟨[0,4],[(3,9,false)],[]⟩ f93_b0)))
 f93_r0)))
noncomputable def f93_l0 (E:Env) (x0:U) (x4:U) (c3:List U):Option U:=loopK (roundOf E ⟨[0,4],[(3,9,false)],[]⟩ f93_b0 (blockK 0 (seqK (fun s=>exec E f93_r0 s (finish [(2,none)])) (finish [(2,none)])))) ([.val x0,.val x4],[.vir (.asl 9 c3)])
theorem Qnj (E:Env) (x0:U) (x4:U) (c3:List U):f93_l0 E x0 x4 c3 =
 (U.lenOf false x0).bind fun n2=>(U.bin .lss x4 (.int .i64 (n2:Int))).bind fun t3=>U.asBool t3
 (U.asInt x4 fun n4=>U.elemAt 9 x0 n4 fun e5=>U.asVar true 9 e5 fun e6=>(E 145 [e6]).bind fun t7=>U.asInt x4 fun n8=>if 9 = 9 ∧ 0 ≤ n8 ∧ n8 < ((c3).length:Int) then if storable (.val t7) = true ∧ t7.size = 9 then (c3[(n8:Int).toNat]?).bind fun e9=>if e9.size = 9 then (U.bin .add x4 (.int .i64 1)).bind fun t10=>f93_l0 E x0 t10 (c3.set (n8:Int).toNat t7) else none else none else none)
 (some (.sl 9 c3)):=(Qf E _ _ _ _).trans (by kernel_rfl)
structure G_f93 (E:Env):Prop where
 is:Is E 144 1 f93_ac [(2,none)]
 c_f92:G_f92 E
theorem f93_E {E:Env} (h:G_f93 E) (a0:U):E 144 [a0] =
 (U.lenOf false a0).bind fun n1=>if 0 ≤ (n1:Int) ∧ (n1:Int) ≤ (n1:Int) ∧ (n1:Int) * 104 ≤ 140737488355328 ∧ ((.agg [(.int .i64 0),(.int .i64 0),(.int .i64 0),(.int .i64 0),(.int .i64 0),(.int .i64 0),(.int .i64 0),(.nsl 2),(.nsl 2)]):U).size = 9 then f93_l0 E a0 (.int .i64 0) (List.replicate ((n1:Int):Int).toNat (.agg [(.int .i64 0),(.int .i64 0),(.int .i64 0),(.int .i64 0),(.int .i64 0),(.int .i64 0),(.int .i64 0),(.nsl 2),(.nsl 2)])) else none:=(h.is _ rfl).trans ((Qa rfl).trans (by kernel_rfl))
def f84_ac:AC :=
 (.seq (rg [oo 1 (.box false 1 (.t 0)),
 oo 2 (.alloc 2 (.agg [(.int .i64 0),(.int .i64 0)]))])
 (.seq (rg [oo 3 (.alloc 3 (.agg [(.int .i64 0),(.int .i64 0)]))])
 (.seq (rg [oo 4 (.faddr 0 0 (.t 1)),
 oo 5 (.load false 1 (.t 4)),
 oo 6 (.faddr 0 0 (.t 3)),
 ⟨none,.store 1 (.t 6) (.t 5),none⟩])
 (.seq (rg [oo 7 (.faddr 1 1 (.t 1)),
 oo 8 (.load false 1 (.t 7)),
 oo 9 (.faddr 1 1 (.t 3)),
 ⟨none,.store 1 (.t 9) (.t 8),none⟩])
 (.seq (rg [oo 10 (.load true 2 (.t 3)),
 ⟨none,.store 2 (.t 2) (.t 10),none⟩])
 .ret)))))
structure G_f84 (E:Env):Prop where
 is:Is E 146 1 f84_ac [(2,some (true,2))]
theorem f84_E {E:Env} (h:G_f84 E) (a0:U):E 146 [a0] =
 U.noTup a0 fun x1=>U.asAgg x1 fun us2=>if 0 = sizes (us2.take 0) then (us2[0]?).bind fun e3=>U.asVar false 1 e3 fun e4=>if storable (.val e4) = true ∧ e4.size = 1 then U.asAgg x1 fun us5=>if 1 = sizes (us5.take 1) then (us5[1]?).bind fun e6=>U.asVar false 1 e6 fun e7=>if storable (.val e7) = true ∧ e7.size = 1 then if 1 = sizes [e4] then U.asVar true 2 (.agg [e4,e7]) fun e8=>if storable (.val e8) = true ∧ e8.size = 2 then U.asVar true 2 e8 fun e9=>some e9 else none else none else none else none else none else none:=(h.is _ rfl).trans ((Qa rfl).trans (by kernel_rfl))
def f85_b0:AC :=
 (.seq (.seq (rg [oo 8 (.mv (.t 4)),
 oo 9 (.mv (.t 0)),
 oo 10 (.len false (.t 9)),
 oo 11 (.bin .lss (.t 8) (.t 10))])
 (.cond (.t 11) .skip (.exit 0)))
 (.seq (.block 1 (rg [oo 14 (.mv (.t 3)),
 oo 15 (.mv (.t 4)),
 oo 16 (.mv (.t 0)),
 oo 17 (.mv (.t 4)),
 oo 18 (.iaddr 2 (.t 16) (.t 17)),
 oo 19 (.load true 2 (.t 18)),
 oo 20 (.call false 146 [(.t 19)]),
 oo 21 (.iaddr 2 (.t 14) (.t 15)),
 ⟨none,.store 2 (.t 21) (.t 20),none⟩]))
 (rg [oo 12 (.mv (.t 4)),
 oo 13 (.bin .add (.t 12) (ci 1)),
 oo 4 (.mv (.t 13))])))
def f85_r0:AC :=
 (.seq (rg [oo 22 (.mv (.t 3)),
 oo 2 (.mv (.t 22))])
 .ret)
def f85_ac:AC :=
 (.seq (rg [oo 2 (.mv (.c (.nsl 2)))])
 (.seq (rg [oo 5 (.mv (.t 0)),
 oo 6 (.len false (.t 5)),
 oo 7 (.mkslice 7 2 16 (.agg [(.int .i64 0),(.int .i64 0)]) (.t 6) (.t 6)),
 oo 3 (.mv (.t 7))])
 (.seq (.seq (rg [oo 4 (.mv (ci 0))])
 (.block 0 (.loop ⟨[0,4],[(3,2,false)],[]⟩ f85_b0)))
 f85_r0)))
noncomputable def f85_l0 (E:Env) (x0:U) (x4:U) (c3:List U):Option U:=loopK (roundOf E ⟨[0,4],[(3,2,false)],[]⟩ f85_b0 (blockK 0 (seqK (fun s=>exec E f85_r0 s (finish [(2,none)])) (finish [(2,none)])))) ([.val x0,.val x4],[.vir (.asl 2 c3)])
theorem Qna (E:Env) (x0:U) (x4:U) (c3:List U):f85_l0 E x0 x4 c3 =
 (U.lenOf false x0).bind fun n2=>(U.bin .lss x4 (.int .i64 (n2:Int))).bind fun t3=>U.asBool t3
 (U.asInt x4 fun n4=>U.elemAt 2 x0 n4 fun e5=>U.asVar true 2 e5 fun e6=>(E 146 [e6]).bind fun t7=>U.asInt x4 fun n8=>if 2 = 2 ∧ 0 ≤ n8 ∧ n8 < ((c3).length:Int) then if storable (.val t7) = true ∧ t7.size = 2 then (c3[(n8:Int).toNat]?).bind fun e9=>if e9.size = 2 then (U.bin .add x4 (.int .i64 1)).bind fun t10=>f85_l0 E x0 t10 (c3.set (n8:Int).toNat t7) else none else none else none)
 (some (.sl 2 c3)):=(Qf E _ _ _ _).trans (by kernel_rfl)
structure G_f85 (E:Env):Prop where
 is:Is E 143 1 f85_ac [(2,none)]
 c_f84:G_f84 E
theorem f85_E {E:Env} (h:G_f85 E) (a0:U):E 143 [a0] =
 (U.lenOf false a0).bind fun n1=>if 0 ≤ (n1:Int) ∧ (n1:Int) ≤ (n1:Int) ∧ (n1:Int) * 16 ≤ 140737488355328 ∧ ((.agg [(.int .i64 0),(.int .i64 0)]):U).size = 2 then f85_l0 E a0 (.int .i64 0) (List.replicate ((n1:Int):Int).toNat (.agg [(.int .i64 0),(.int .i64 0)])) else none:=(h.is _ rfl).trans ((Qa rfl).trans (by kernel_rfl))
def f101_ac:AC :=
 (.seq (rg [oo 1 (.box false 1 (.t 0)),
 oo 2 (.alloc 2 (.agg [(.int .i64 0),(.int .i64 0)]))])
 (.seq (rg [oo 3 (.alloc 3 (.agg [(.int .i64 0),(.int .i64 0)]))])
 (.seq (rg [oo 4 (.faddr 0 0 (.t 1)),
 oo 5 (.load false 1 (.t 4)),
 oo 6 (.faddr 0 0 (.t 3)),
 ⟨none,.store 1 (.t 6) (.t 5),none⟩])
 (.seq (rg [oo 7 (.faddr 1 1 (.t 1)),
 oo 8 (.load false 1 (.t 7)),
 oo 9 (.faddr 1 1 (.t 3)),
 ⟨none,.store 1 (.t 9) (.t 8),none⟩])
 (.seq (rg [oo 10 (.load true 2 (.t 3)),
 ⟨none,.store 2 (.t 2) (.t 10),none⟩])
 .ret)))))
structure G_f101 (E:Env):Prop where
 is:Is E 147 1 f101_ac [(2,some (true,2))]
theorem Qtd {E:Env} (h:G_f101 E) (a0:U):E 147 [a0] =
 U.noTup a0 fun x1=>U.asAgg x1 fun us2=>if 0 = sizes (us2.take 0) then (us2[0]?).bind fun e3=>U.asVar false 1 e3 fun e4=>if storable (.val e4) = true ∧ e4.size = 1 then U.asAgg x1 fun us5=>if 1 = sizes (us5.take 1) then (us5[1]?).bind fun e6=>U.asVar false 1 e6 fun e7=>if storable (.val e7) = true ∧ e7.size = 1 then if 1 = sizes [e4] then U.asVar true 2 (.agg [e4,e7]) fun e8=>if storable (.val e8) = true ∧ e8.size = 2 then U.asVar true 2 e8 fun e9=>some e9 else none else none else none else none else none else none:=(h.is _ rfl).trans ((Qa rfl).trans (by kernel_rfl))
def f102_b0:AC :=
 (.seq (.seq (rg [oo 8 (.mv (.t 4)),
 oo 9 (.mv (.t 0)),
 oo 10 (.len false (.t 9)),
 oo 11 (.bin .lss (.t 8) (.t 10))])
 (.cond (.t 11) .skip (.exit 0)))
 (.seq (.block 1 (rg [oo 14 (.mv (.t 3)),
 oo 15 (.mv (.t 4)),
 oo 16 (.mv (.t 0)),
 oo 17 (.mv (.t 4)),
 oo 18 (.iaddr 2 (.t 16) (.t 17)),
 oo 19 (.load true 2 (.t 18)),
 oo 20 (.call false 147 [(.t 19)]),
 oo 21 (.iaddr 2 (.t 14) (.t 15)),
 ⟨none,.store 2 (.t 21) (.t 20),none⟩]))
 (rg [oo 12 (.mv (.t 4)),
 oo 13 (.bin .add (.t 12) (ci 1)),
 oo 4 (.mv (.t 13))])))
def f102_r0:AC :=
 (.seq (rg [oo 22 (.mv (.t 3)),
 oo 2 (.mv (.t 22))])
 .ret)
def f102_ac:AC :=
 (.seq (rg [oo 2 (.mv (.c (.nsl 2)))])
 (.seq (rg [oo 5 (.mv (.t 0)),
 oo 6 (.len false (.t 5)),
 oo 7 (.mkslice 7 2 16 (.agg [(.int .i64 0),(.int .i64 0)]) (.t 6) (.t 6)),
 oo 3 (.mv (.t 7))])
 (.seq (.seq (rg [oo 4 (.mv (ci 0))])
 (.block 0 (.loop ⟨[0,4],[(3,2,false)],[]⟩ f102_b0)))
 f102_r0)))
noncomputable def f102_l0 (E:Env) (x0:U) (x4:U) (c3:List U):Option U:=loopK (roundOf E ⟨[0,4],[(3,2,false)],[]⟩ f102_b0 (blockK 0 (seqK (fun s=>exec E f102_r0 s (finish [(2,none)])) (finish [(2,none)])))) ([.val x0,.val x4],[.vir (.asl 2 c3)])
theorem Qjx (E:Env) (x0:U) (x4:U) (c3:List U):f102_l0 E x0 x4 c3 =
 (U.lenOf false x0).bind fun n2=>(U.bin .lss x4 (.int .i64 (n2:Int))).bind fun t3=>U.asBool t3
 (U.asInt x4 fun n4=>U.elemAt 2 x0 n4 fun e5=>U.asVar true 2 e5 fun e6=>(E 147 [e6]).bind fun t7=>U.asInt x4 fun n8=>if 2 = 2 ∧ 0 ≤ n8 ∧ n8 < ((c3).length:Int) then if storable (.val t7) = true ∧ t7.size = 2 then (c3[(n8:Int).toNat]?).bind fun e9=>if e9.size = 2 then (U.bin .add x4 (.int .i64 1)).bind fun t10=>f102_l0 E x0 t10 (c3.set (n8:Int).toNat t7) else none else none else none)
 (some (.sl 2 c3)):=(Qf E _ _ _ _).trans (by kernel_rfl)
structure G_f102 (E:Env):Prop where
 is:Is E 142 1 f102_ac [(2,none)]
 c_f101:G_f101 E
theorem Qtf {E:Env} (h:G_f102 E) (a0:U):E 142 [a0] =
 (U.lenOf false a0).bind fun n1=>if 0 ≤ (n1:Int) ∧ (n1:Int) ≤ (n1:Int) ∧ (n1:Int) * 16 ≤ 140737488355328 ∧ ((.agg [(.int .i64 0),(.int .i64 0)]):U).size = 2 then f102_l0 E a0 (.int .i64 0) (List.replicate ((n1:Int):Int).toNat (.agg [(.int .i64 0),(.int .i64 0)])) else none:=(h.is _ rfl).trans ((Qa rfl).trans (by kernel_rfl))
def f78_ac:AC :=
 (.seq (rg [oo 1 (.box false 1 (.t 0)),
 oo 2 (.alloc 2 (.agg [(.bool false),(.agg [(.nsl 1)]),(.nsl 9),(.nsl 2),(.nsl 2),(.int .i64 0)]))])
 (.seq (rg [oo 3 (.alloc 3 (.agg [(.bool false),(.agg [(.nsl 1)]),(.nsl 9),(.nsl 2),(.nsl 2),(.int .i64 0)]))])
 (.seq (rg [oo 4 (.faddr 0 0 (.t 1)),
 oo 5 (.load false 1 (.t 4)),
 oo 6 (.faddr 0 0 (.t 3)),
 ⟨none,.store 1 (.t 6) (.t 5),none⟩])
 (.seq (rg [oo 7 (.faddr 1 1 (.t 1)),
 oo 8 (.load true 1 (.t 7)),
 oo 9 (.call false 93 [(.t 8)]),
 oo 10 (.faddr 1 1 (.t 3)),
 ⟨none,.store 1 (.t 10) (.t 9),none⟩])
 (.seq (rg [oo 11 (.faddr 2 2 (.t 1)),
 oo 12 (.load false 1 (.t 11)),
 oo 13 (.call false 144 [(.t 12)]),
 oo 14 (.faddr 2 2 (.t 3)),
 ⟨none,.store 1 (.t 14) (.t 13),none⟩])
 (.seq (rg [oo 15 (.faddr 3 3 (.t 1)),
 oo 16 (.load false 1 (.t 15)),
 oo 17 (.call false 143 [(.t 16)]),
 oo 18 (.faddr 3 3 (.t 3)),
 ⟨none,.store 1 (.t 18) (.t 17),none⟩])
 (.seq (rg [oo 19 (.faddr 4 4 (.t 1)),
 oo 20 (.load false 1 (.t 19)),
 oo 21 (.call false 142 [(.t 20)]),
 oo 22 (.faddr 4 4 (.t 3)),
 ⟨none,.store 1 (.t 22) (.t 21),none⟩])
 (.seq (rg [oo 23 (.faddr 5 5 (.t 1)),
 oo 24 (.load false 1 (.t 23)),
 oo 25 (.faddr 5 5 (.t 3)),
 ⟨none,.store 1 (.t 25) (.t 24),none⟩])
 (.seq (rg [oo 26 (.load true 6 (.t 3)),
 ⟨none,.store 6 (.t 2) (.t 26),none⟩])
 .ret)))))))))
structure G_f78 (E:Env):Prop where
 is:Is E 124 1 f78_ac [(2,some (true,6))]
 c_f90:G_f90 E
 c_f93:G_f93 E
 c_f85:G_f85 E
 c_f102:G_f102 E
theorem f78_E {E:Env} (h:G_f78 E) (a0:U):E 124 [a0] =
 U.noTup a0 fun x1=>U.asAgg x1 fun us2=>if 0 = sizes (us2.take 0) then (us2[0]?).bind fun e3=>U.asVar false 1 e3 fun e4=>if storable (.val e4) = true ∧ e4.size = 1 then U.asAgg x1 fun us5=>if 1 = sizes (us5.take 1) then (us5[1]?).bind fun e6=>U.asVar true 1 e6 fun e7=>(E 93 [e7]).bind fun t8=>if storable (.val t8) = true ∧ t8.size = 1 then if 1 = sizes [e4] then U.asAgg x1 fun us9=>if 2 = sizes (us9.take 2) then (us9[2]?).bind fun e10=>U.asVar false 1 e10 fun e11=>(E 144 [e11]).bind fun t12=>if storable (.val t12) = true ∧ t12.size = 1 then if 2 = sizes [e4,t8] then U.asAgg x1 fun us13=>if 3 = sizes (us13.take 3) then (us13[3]?).bind fun e14=>U.asVar false 1 e14 fun e15=>(E 143 [e15]).bind fun t16=>if storable (.val t16) = true ∧ t16.size = 1 then if 3 = sizes [e4,t8,t12] then U.asAgg x1 fun us17=>if 4 = sizes (us17.take 4) then (us17[4]?).bind fun e18=>U.asVar false 1 e18 fun e19=>(E 142 [e19]).bind fun t20=>if storable (.val t20) = true ∧ t20.size = 1 then if 4 = sizes [e4,t8,t12,t16] then U.asAgg x1 fun us21=>if 5 = sizes (us21.take 5) then (us21[5]?).bind fun e22=>U.asVar false 1 e22 fun e23=>if storable (.val e23) = true ∧ e23.size = 1 then if 5 = sizes [e4,t8,t12,t16,t20] then U.asVar true 6 (.agg [e4,t8,t12,t16,t20,e23]) fun e24=>if storable (.val e24) = true ∧ e24.size = 6 then U.asVar true 6 e24 fun e25=>some e25 else none else none else none else none else none else none else none else none else none else none else none else none else none else none else none else none else none else none:=(h.is _ rfl).trans ((Qa rfl).trans (by kernel_rfl))
def f113_b0:AC :=
 (.seq (rg [oo 9 (.bin .lss (.t 8) (.t 7))])
 (.seq (.cond (.t 9) .skip (.exit 0))
 (.seq (.block 1 (.seq (rg [oo 10 (.mv (.t 8)),
 oo 5 (.mv (.t 10))])
 (.seq (rg [oo 11 (.mv (.t 1)),
 oo 12 (.mv (.t 0)),
 oo 13 (.mv (.t 5)),
 oo 14 (.iaddr 1 (.t 12) (.t 13)),
 oo 15 (.load false 1 (.t 14)),
 oo 16 (.callv false (.t 11) [(.t 15)])])
 (.cond (.t 16) (.seq (rg [oo 17 (.mv (.t 5)),
 oo 4 (.mv (.t 17))])
 .ret) .skip))))
 (rg [oo 18 (.bin .add (.t 8) (ci 1)),
 oo 8 (.mv (.t 18))]))))
def f113_r0:AC :=
 (.seq (rg [oo 4 (.mv (ci (-1)))])
 .ret)
def f113_ac:AC :=
 (.seq (rg [oo 4 (.mv (ci 0))])
 (.seq (.seq (rg [oo 6 (.mv (.t 0)),
 oo 7 (.len false (.t 6)),
 oo 8 (.mv (ci 0))])
 (.block 0 (.loop ⟨[0,1,7,8],[],[]⟩ f113_b0)))
 f113_r0))
noncomputable def f113_l0 (E:Env) (x0:U) (x1:U) (x7:U) (x8:U):Option U:=loopK (roundOf E ⟨[0,1,7,8],[],[]⟩ f113_b0 (blockK 0 (seqK (fun s=>exec E f113_r0 s (finish [(4,none)])) (finish [(4,none)])))) ([.val x0,.val x1,.val x7,.val x8],[])
theorem Qj6 (E:Env) (x0:U) (x1:U) (x7:U) (x8:U):f113_l0 E x0 x1 x7 x8 =
 (U.bin .lss x8 x7).bind fun t2=>U.asBool t2
 (U.asInt x8 fun n3=>U.elemAt 1 x0 n3 fun e4=>U.asVar false 1 e4 fun e5=>U.asFn x1 fun r6 caps7=>(E r6 ([e5] ++ caps7)).bind fun t8=>U.asBool t8
 (some x8)
 ((U.bin .add x8 (.int .i64 1)).bind fun t9=>f113_l0 E x0 x1 x7 t9))
 (some (.int .i64 (-1))):=(Qf E _ _ _ _).trans (by kernel_rfl)
structure G_f113 (E:Env):Prop where
 is:Is E 115 2 f113_ac [(4,none)]
theorem Quh {E:Env} (h:G_f113 E) (a0 a1:U):E 115 [a0,a1] =
 (U.lenOf false a0).bind fun n1=>f113_l0 E a0 a1 (.int .i64 (n1:Int)) (.int .i64 0):=(h.is _ rfl).trans ((Qa rfl).trans (by kernel_rfl))
def f109_ac:AC :=
 (.seq (rg [oo 4 (.mv (.c (.bool false)))])
 (.seq (rg [oo 5 (.mv (.t 0)),
 oo 6 (.mv (.t 1)),
 oo 7 (.call false 115 [(.t 5),(.t 6)]),
 oo 8 (.bin .geq (.t 7) (ci 0)),
 oo 4 (.mv (.t 8))])
 .ret))
structure G_f109 (E:Env):Prop where
 is:Is E 114 2 f109_ac [(4,none)]
 c_f113:G_f113 E
theorem Qt3 {E:Env} (h:G_f109 E) (a0 a1:U):E 114 [a0,a1] =
 (E 115 [a0,a1]).bind fun t1=>(U.bin .geq t1 (.int .i64 0)).bind fun t2=>some t2:=(h.is _ rfl).trans ((Qa rfl).trans (by kernel_rfl))
def f32_ac:AC :=
 (.seq (rg [oo 6 (.mv (.c (.bool false)))])
 (.seq (rg [oo 7 (.mv (.t 1)),
 oo 8 (.mv (.t 0)),
 oo 9 (.bin .leq (.t 7) (.t 8)),
 oo 10 (.mv (.t 9)),
 ⟨some 11,.mv (.t 0),some (10,true)⟩,
 ⟨some 12,.mv (.t 2),some (10,true)⟩,
 ⟨some 13,.bin .leq (.t 11) (.t 12),some (10,true)⟩,
 oo 14 (.pick (.t 10) (.t 13) (.c (.bool false))),
 oo 6 (.mv (.t 14))])
 .ret))
structure G_f32 (E:Env):Prop where
 is:Is E 10 3 f32_ac [(6,none)]
theorem f32_E {E:Env} (h:G_f32 E) (a0 a1 a2:U):E 10 [a0,a1,a2] =
 (U.bin .leq a1 a0).bind fun t1=>U.asBool t1
 ((U.bin .leq a0 a2).bind fun t2=>some t2)
 (some (.bool false)):=(h.is _ rfl).trans ((Qa rfl).trans (by kernel_rfl))
def f33_ac:AC :=
 (.seq (rg [oo 2 (.mv (.c (.bool false)))])
 (.seq (rg [oo 3 (.mv (.t 0)),
 oo 4 (.call false 10 [(.t 3),(ci 1),(ci 9)]),
 oo 2 (.mv (.t 4))])
 .ret))
structure G_f33 (E:Env):Prop where
 is:Is E 9 1 f33_ac [(2,none)]
 c_f32:G_f32 E
theorem f33_E {E:Env} (h:G_f33 E) (a0:U):E 9 [a0] =
 (E 10 [a0,(.int .i64 1),(.int .i64 9)]).bind fun t1=>some t1:=(h.is _ rfl).trans ((Qa rfl).trans (by kernel_rfl))
def f36_ac:AC :=
 (.seq (rg [oo 2 (.mv (.c (.bool false)))])
 (.seq (rg [oo 3 (.mv (.t 0)),
 oo 4 (.call false 10 [(.t 3),(ci (-1)),(ci 99)]),
 oo 2 (.mv (.t 4))])
 .ret))
structure G_f36 (E:Env):Prop where
 is:Is E 76 1 f36_ac [(2,none)]
 c_f32:G_f32 E
theorem f36_E {E:Env} (h:G_f36 E) (a0:U):E 76 [a0] =
 (E 10 [a0,(.int .i64 (-1)),(.int .i64 99)]).bind fun t1=>some t1:=(h.is _ rfl).trans ((Qa rfl).trans (by kernel_rfl))
def f22_ac:AC :=
 (.seq (rg [oo 1 (.box false 1 (.t 0)),
 oo 2 (.mv (.c (.bool false)))])
 (.seq (.seq (rg [oo 3 (.faddr 1 1 (.t 1)),
 oo 4 (.load false 1 (.t 3)),
 oo 5 (.call false 76 [(.t 4)]),
 oo 6 (.un .not (.t 5)),
 oo 7 (.mv (.t 6)),
 ⟨some 8,.faddr 2 2 (.t 1),some (7,false)⟩,
 ⟨some 9,.load false 1 (.t 8),some (7,false)⟩,
 ⟨some 10,.call false 10 [(.t 9),(ci 0),(ci 999)],some (7,false)⟩,
 ⟨some 11,.un .not (.t 10),some (7,false)⟩,
 oo 12 (.pick (.t 7) (.c (.bool true)) (.t 11)),
 oo 13 (.mv (.t 12)),
 ⟨some 14,.faddr 3 3 (.t 1),some (13,false)⟩,
 ⟨some 15,.load false 1 (.t 14),some (13,false)⟩,
 ⟨some 16,.faddr 2 2 (.t 1),some (13,false)⟩,
 ⟨some 17,.load false 1 (.t 16),some (13,false)⟩,
 ⟨some 18,.call false 10 [(.t 15),(.t 17),(ci 999)],some (13,false)⟩,
 ⟨some 19,.un .not (.t 18),some (13,false)⟩,
 oo 20 (.pick (.t 13) (.c (.bool true)) (.t 19)),
 oo 21 (.mv (.t 20)),
 ⟨some 22,.faddr 4 4 (.t 1),some (21,false)⟩,
 ⟨some 23,.load false 1 (.t 22),some (21,false)⟩,
 ⟨some 24,.call false 10 [(.t 23),(ci 1),(ci 1000)],some (21,false)⟩,
 ⟨some 25,.un .not (.t 24),some (21,false)⟩,
 oo 26 (.pick (.t 21) (.c (.bool true)) (.t 25))])
 (.cond (.t 26) (.seq (rg [oo 2 (.mv (.c (.bool false)))])
 .ret) .skip))
 (.seq (.seq (rg [oo 27 (.faddr 2 2 (.t 1)),
 oo 28 (.load false 1 (.t 27)),
 oo 29 (.bin .eql (.t 28) (ci 0))])
 (.cond (.t 29) (.seq (rg [oo 30 (.faddr 0 0 (.t 1)),
 oo 31 (.load false 1 (.t 30)),
 oo 32 (.bin .eql (.t 31) (ci 0)),
 oo 33 (.mv (.t 32)),
 ⟨some 34,.faddr 1 1 (.t 1),some (33,true)⟩,
 ⟨some 35,.load false 1 (.t 34),some (33,true)⟩,
 ⟨some 36,.bin .eql (.t 35) (ci (-1)),some (33,true)⟩,
 oo 37 (.pick (.t 33) (.t 36) (.c (.bool false))),
 oo 2 (.mv (.t 37))])
 .ret) .skip))
 (.seq (rg [oo 38 (.faddr 0 0 (.t 1)),
 oo 39 (.load false 1 (.t 38)),
 oo 40 (.call false 9 [(.t 39)]),
 oo 2 (.mv (.t 40))])
 .ret))))
structure G_f22 (E:Env):Prop where
 is:Is E 117 1 f22_ac [(2,none)]
 c_f32:G_f32 E
 c_f33:G_f33 E
 c_f36:G_f36 E
theorem f22_E {E:Env} (h:G_f22 E) (a0:U):E 117 [a0] =
 U.noTup a0 fun x1=>U.asAgg x1 fun us2=>if 1 = sizes (us2.take 1) then (us2[1]?).bind fun e3=>U.asVar false 1 e3 fun e4=>(E 76 [e4]).bind fun t5=>(U.un .not t5).bind fun t6=>U.asBool t6
 (some (.bool false))
 (U.asAgg x1 fun us7=>if 2 = sizes (us7.take 2) then (us7[2]?).bind fun e8=>U.asVar false 1 e8 fun e9=>(E 10 [e9,(.int .i64 0),(.int .i64 999)]).bind fun t10=>(U.un .not t10).bind fun t11=>U.asBool t11
 (some (.bool false))
 (U.asAgg x1 fun us12=>if 3 = sizes (us12.take 3) then (us12[3]?).bind fun e13=>U.asVar false 1 e13 fun e14=>U.asAgg x1 fun us15=>if 2 = sizes (us15.take 2) then (us15[2]?).bind fun e16=>U.asVar false 1 e16 fun e17=>(E 10 [e14,e17,(.int .i64 999)]).bind fun t18=>(U.un .not t18).bind fun t19=>U.asBool t19
 (some (.bool false))
 (U.asAgg x1 fun us20=>if 4 = sizes (us20.take 4) then (us20[4]?).bind fun e21=>U.asVar false 1 e21 fun e22=>(E 10 [e22,(.int .i64 1),(.int .i64 1000)]).bind fun t23=>(U.un .not t23).bind fun t24=>U.asBool t24
 (some (.bool false))
 (U.asAgg x1 fun us25=>if 2 = sizes (us25.take 2) then (us25[2]?).bind fun e26=>U.asVar false 1 e26 fun e27=>(U.bin .eql e27 (.int .i64 0)).bind fun t28=>U.asBool t28
 (U.asAgg x1 fun us29=>if 0 = sizes (us29.take 0) then (us29[0]?).bind fun e30=>U.asVar false 1 e30 fun e31=>(U.bin .eql e31 (.int .i64 0)).bind fun t32=>U.asBool t32
 (U.asAgg x1 fun us33=>if 1 = sizes (us33.take 1) then (us33[1]?).bind fun e34=>U.asVar false 1 e34 fun e35=>(U.bin .eql e35 (.int .i64 (-1))).bind fun t36=>some t36 else none)
 (some (.bool false)) else none)
 (U.asAgg x1 fun us37=>if 0 = sizes (us37.take 0) then (us37[0]?).bind fun e38=>U.asVar false 1 e38 fun e39=>(E 9 [e39]).bind fun t40=>some t40 else none) else none) else none) else none else none) else none) else none:=(h.is _ rfl).trans ((Qa rfl).trans (by kernel_rfl))
def f15_b0:AC :=
 (.seq (rg [oo 8 (.bin .lss (.t 7) (.t 6))])
 (.seq (.cond (.t 8) .skip (.exit 0))
 (.seq (.block 1 (.seq (rg [oo 9 (.mv (.t 7)),
 oo 10 (.iaddr 5 (.t 5) (.t 7)),
 oo 11 (.load true 5 (.t 10)),
 oo 4 (.alloc 4 (.agg [(.int .i64 0),(.int .i64 0),(.int .i64 0),(.int .i64 0),(.int .i64 0)])),
 oo 3 (.mv (.t 9)),
 ⟨none,.store 5 (.t 4) (.t 11),none⟩])
 (.seq (.region 29 [oo 12 (.load true 5 (.t 4)),
 oo 13 (.call false 117 [(.t 12)]),
 oo 14 (.un .not (.t 13)),
 oo 15 (.mv (.t 14)),
 ⟨some 16,.mv (.t 3),some (15,false)⟩,
 ⟨some 17,.bin .gtr (.t 16) (ci 0),some (15,false)⟩,
 ⟨some 18,.mv (.t 17),some (15,false)⟩,
 ⟨some 19,.mv (.t 0),some (18,true)⟩,
 ⟨some 20,.mv (.t 3),some (18,true)⟩,
 ⟨some 21,.bin .sub (.t 20) (ci 1),some (18,true)⟩,
 ⟨some 22,.iaddr 5 (.t 19) (.t 21),some (18,true)⟩,
 ⟨some 23,.faddr 2 2 (.t 22),some (18,true)⟩,
 ⟨some 24,.load false 1 (.t 23),some (18,true)⟩,
 ⟨some 25,.faddr 2 2 (.t 4),some (18,true)⟩,
 ⟨some 26,.load false 1 (.t 25),some (18,true)⟩,
 ⟨some 27,.bin .geq (.t 24) (.t 26),some (18,true)⟩,
 ⟨some 28,.mv (.t 27),some (18,true)⟩,
 ⟨some 29,.mv (.t 0),some (28,false)⟩,
 ⟨some 30,.mv (.t 3),some (28,false)⟩,
 ⟨some 31,.bin .sub (.t 30) (ci 1),some (28,false)⟩,
 ⟨some 32,.iaddr 5 (.t 29) (.t 31),some (28,false)⟩,
 ⟨some 33,.faddr 4 4 (.t 32),some (28,false)⟩,
 ⟨some 34,.load false 1 (.t 33),some (28,false)⟩,
 ⟨some 35,.faddr 2 2 (.t 4),some (28,false)⟩,
 ⟨some 36,.load false 1 (.t 35),some (28,false)⟩,
 ⟨some 37,.bin .gtr (.t 34) (.t 36),some (28,false)⟩,
 ⟨some 38,.pick (.t 28) (.c (.bool true)) (.t 37),some (18,true)⟩,
 ⟨some 39,.pick (.t 18) (.t 38) (.c (.bool false)),some (15,false)⟩,
 oo 40 (.pick (.t 15) (.c (.bool true)) (.t 39))])
 (.cond (.t 40) (.seq (rg [oo 2 (.mv (.c (.bool false)))])
 .ret) .skip))))
 (rg [oo 41 (.bin .add (.t 7) (ci 1)),
 oo 7 (.mv (.t 41))]))))
def f15_r0:AC :=
 (.seq (rg [oo 42 (.mv (.t 0)),
 oo 43 (.len false (.t 42)),
 oo 44 (.bin .gtr (.t 43) (ci 0)),
 oo 45 (.mv (.t 44)),
 ⟨some 46,.mv (.t 0),some (45,true)⟩,
 ⟨some 47,.mv (.t 0),some (45,true)⟩,
 ⟨some 48,.len false (.t 47),some (45,true)⟩,
 ⟨some 49,.bin .sub (.t 48) (ci 1),some (45,true)⟩,
 ⟨some 50,.iaddr 5 (.t 46) (.t 49),some (45,true)⟩,
 ⟨some 51,.faddr 4 4 (.t 50),some (45,true)⟩,
 ⟨some 52,.load false 1 (.t 51),some (45,true)⟩,
 ⟨some 53,.bin .eql (.t 52) (ci 1000),some (45,true)⟩,
 oo 54 (.pick (.t 45) (.t 53) (.c (.bool false))),
 oo 2 (.mv (.t 54))])
 .ret)
def f15_ac:AC :=
 (.seq (rg [oo 2 (.mv (.c (.bool false)))])
 (.seq (.seq (rg [oo 5 (.mv (.t 0)),
 oo 6 (.len false (.t 5)),
 oo 7 (.mv (ci 0))])
 (.block 0 (.loop ⟨[0,5,6,7],[],[]⟩ f15_b0)))
 f15_r0))
noncomputable def f15_l0 (E:Env) (x0:U) (x5:U) (x6:U) (x7:U):Option U:=loopK (roundOf E ⟨[0,5,6,7],[],[]⟩ f15_b0 (blockK 0 (seqK (fun s=>exec E f15_r0 s (finish [(2,none)])) (finish [(2,none)])))) ([.val x0,.val x5,.val x6,.val x7],[])
theorem Qlc (E:Env) (x0:U) (x5:U) (x6:U) (x7:U):f15_l0 E x0 x5 x6 x7 =
 (U.bin .lss x7 x6).bind fun t2=>U.asBool t2
 (U.asInt x7 fun n3=>U.elemAt 5 x5 n3 fun e4=>U.asVar true 5 e4 fun e5=>if storable (.val e5) = true ∧ e5.size = 5 then U.asVar true 5 e5 fun e6=>(E 117 [e6]).bind fun t7=>(U.un .not t7).bind fun t8=>U.asBool t8
 (some (.bool false))
 ((U.bin .gtr x7 (.int .i64 0)).bind fun t9=>U.asBool t9
 ((U.bin .sub x7 (.int .i64 1)).bind fun t10=>U.asInt t10 fun n11=>U.elemAt 5 x0 n11 fun e12=>U.fieldAt 2 2 e12 fun f13=>U.asVar false 1 f13 fun e14=>U.asAgg e5 fun us15=>if 2 = sizes (us15.take 2) then (us15[2]?).bind fun e16=>U.asVar false 1 e16 fun e17=>(U.bin .geq e14 e17).bind fun t18=>U.asBool t18
 (some (.bool false))
 ((U.bin .sub x7 (.int .i64 1)).bind fun t19=>U.asInt t19 fun n20=>U.elemAt 5 x0 n20 fun e21=>U.fieldAt 4 4 e21 fun f22=>U.asVar false 1 f22 fun e23=>U.asAgg e5 fun us24=>if 2 = sizes (us24.take 2) then (us24[2]?).bind fun e25=>U.asVar false 1 e25 fun e26=>(U.bin .gtr e23 e26).bind fun t27=>U.asBool t27
 (some (.bool false))
 ((U.bin .add x7 (.int .i64 1)).bind fun t28=>f15_l0 E x0 x5 x6 t28) else none) else none)
 ((U.bin .add x7 (.int .i64 1)).bind fun t29=>f15_l0 E x0 x5 x6 t29)) else none)
 ((U.lenOf false x0).bind fun n30=>(U.bin .gtr (.int .i64 (n30:Int)) (.int .i64 0)).bind fun t31=>U.asBool t31
 ((U.lenOf false x0).bind fun n32=>(U.bin .sub (.int .i64 (n32:Int)) (.int .i64 1)).bind fun t33=>U.asInt t33 fun n34=>U.elemAt 5 x0 n34 fun e35=>U.fieldAt 4 4 e35 fun f36=>U.asVar false 1 f36 fun e37=>(U.bin .eql e37 (.int .i64 1000)).bind fun t38=>some t38)
 (some (.bool false))):=(Qf E _ _ _ _).trans (by kernel_rfl)
structure G_f15 (E:Env):Prop where
 is:Is E 116 1 f15_ac [(2,none)]
 c_f22:G_f22 E
theorem f15_E {E:Env} (h:G_f15 E) (a0:U):E 116 [a0] =
 (U.lenOf false a0).bind fun n1=>f15_l0 E a0 a0 (.int .i64 (n1:Int)) (.int .i64 0):=(h.is _ rfl).trans ((Qa rfl).trans (by kernel_rfl))
def f20_ac:AC :=
 (.seq (rg [oo 2 (.mv (.c (.bool false)))])
 (.seq (rg [oo 3 (.mv (.t 0)),
 oo 4 (.call false 116 [(.t 3)]),
 oo 5 (.un .not (.t 4)),
 oo 6 (.mv (.t 5)),
 ⟨some 7,.mv (.t 0),some (6,false)⟩,
 ⟨some 8,.len false (.t 7),some (6,false)⟩,
 ⟨some 9,.bin .gtr (.t 8) (ci 50),some (6,false)⟩,
 oo 10 (.pick (.t 6) (.c (.bool true)) (.t 9)),
 oo 2 (.mv (.t 10))])
 .ret))
structure G_f20 (E:Env):Prop where
 is:Is E 113 1 f20_ac [(2,none)]
 c_f15:G_f15 E
theorem f20_E {E:Env} (h:G_f20 E) (a0:U):E 113 [a0] =
 (E 116 [a0]).bind fun t1=>(U.un .not t1).bind fun t2=>U.asBool t2
 (some (.bool true))
 ((U.lenOf false a0).bind fun n3=>(U.bin .gtr (.int .i64 (n3:Int)) (.int .i64 50)).bind fun t4=>some t4):=(h.is _ rfl).trans ((Qa rfl).trans (by kernel_rfl))
def f19_ac:AC :=
 (.seq (rg [oo 1 (.box false 1 (.t 0)),
 oo 2 (.mv (.c (.bool false)))])
 (.seq (rg [oo 3 (.faddr 0 0 (.t 1)),
 oo 4 (.load false 1 (.t 3)),
 oo 5 (.len false (.t 4)),
 oo 6 (.bin .eql (.t 5) (ci 6)),
 oo 7 (.mv (.t 6)),
 ⟨some 8,.faddr 0 0 (.t 1),some (7,true)⟩,
 ⟨some 9,.load false 1 (.t 8),some (7,true)⟩,
 ⟨some 10,.call false 114 [(.t 9),(.c (.fn 113 []))],some (7,true)⟩,
 ⟨some 11,.un .not (.t 10),some (7,true)⟩,
 oo 12 (.pick (.t 7) (.t 11) (.c (.bool false))),
 oo 2 (.mv (.t 12))])
 .ret))
structure G_f19 (E:Env):Prop where
 is:Is E 112 1 f19_ac [(2,none)]
 c_f109:G_f109 E
 c_f20:G_f20 E
theorem f19_E {E:Env} (h:G_f19 E) (a0:U):E 112 [a0] =
 U.noTup a0 fun x1=>U.asAgg x1 fun us2=>if 0 = sizes (us2.take 0) then (us2[0]?).bind fun e3=>U.asVar false 1 e3 fun e4=>(U.lenOf false e4).bind fun n5=>(U.bin .eql (.int .i64 (n5:Int)) (.int .i64 6)).bind fun t6=>U.asBool t6
 (U.asAgg x1 fun us7=>if 0 = sizes (us7.take 0) then (us7[0]?).bind fun e8=>U.asVar false 1 e8 fun e9=>(E 114 [e9,(.fn 113 [])]).bind fun t10=>(U.un .not t10).bind fun t11=>some t11 else none)
 (some (.bool false)) else none:=(h.is _ rfl).trans ((Qa rfl).trans (by kernel_rfl))
def f34_ac:AC :=
 (.seq (rg [oo 2 (.mv (.c (.bool false)))])
 (.seq (rg [oo 3 (.mv (.t 0)),
 oo 4 (.call false 10 [(.t 3),(ci 0),(ci 5)]),
 oo 2 (.mv (.t 4))])
 .ret))
structure G_f34 (E:Env):Prop where
 is:Is E 11 1 f34_ac [(2,none)]
 c_f32:G_f32 E
theorem f34_E {E:Env} (h:G_f34 E) (a0:U):E 11 [a0] =
 (E 10 [a0,(.int .i64 0),(.int .i64 5)]).bind fun t1=>some t1:=(h.is _ rfl).trans ((Qa rfl).trans (by kernel_rfl))
def f3_b0:AC :=
 (.seq (rg [oo 8 (.bin .lss (.t 7) (.t 6))])
 (.seq (.cond (.t 8) .skip (.exit 0))
 (.seq (.block 1 (.seq (rg [oo 9 (.mv (.t 7)),
 oo 10 (.iaddr 2 (.t 5) (.t 7)),
 oo 11 (.load true 2 (.t 10)),
 oo 4 (.alloc 4 (.agg [(.int .i64 0),(.int .i64 0)])),
 oo 3 (.mv (.t 9)),
 ⟨none,.store 2 (.t 4) (.t 11),none⟩])
 (.seq (.region 25 [oo 12 (.faddr 0 0 (.t 4)),
 oo 13 (.load false 1 (.t 12)),
 oo 14 (.call false 11 [(.t 13)]),
 oo 15 (.un .not (.t 14)),
 oo 16 (.mv (.t 15)),
 ⟨some 17,.faddr 1 1 (.t 4),some (16,false)⟩,
 ⟨some 18,.load false 1 (.t 17),some (16,false)⟩,
 ⟨some 19,.call false 9 [(.t 18)],some (16,false)⟩,
 ⟨some 20,.un .not (.t 19),some (16,false)⟩,
 oo 21 (.pick (.t 16) (.c (.bool true)) (.t 20)),
 oo 22 (.mv (.t 21)),
 ⟨some 23,.mv (.t 3),some (22,false)⟩,
 ⟨some 24,.bin .gtr (.t 23) (ci 0),some (22,false)⟩,
 ⟨some 25,.mv (.t 24),some (22,false)⟩,
 ⟨some 26,.mv (.t 0),some (25,true)⟩,
 ⟨some 27,.mv (.t 3),some (25,true)⟩,
 ⟨some 28,.bin .sub (.t 27) (ci 1),some (25,true)⟩,
 ⟨some 29,.iaddr 2 (.t 26) (.t 28),some (25,true)⟩,
 ⟨some 30,.faddr 0 0 (.t 29),some (25,true)⟩,
 ⟨some 31,.load false 1 (.t 30),some (25,true)⟩,
 ⟨some 32,.faddr 0 0 (.t 4),some (25,true)⟩,
 ⟨some 33,.load false 1 (.t 32),some (25,true)⟩,
 ⟨some 34,.bin .geq (.t 31) (.t 33),some (25,true)⟩,
 ⟨some 35,.pick (.t 25) (.t 34) (.c (.bool false)),some (22,false)⟩,
 oo 36 (.pick (.t 22) (.c (.bool true)) (.t 35))])
 (.cond (.t 36) (.seq (rg [oo 2 (.mv (.c (.bool false)))])
 .ret) .skip))))
 (rg [oo 37 (.bin .add (.t 7) (ci 1)),
 oo 7 (.mv (.t 37))]))))
def f3_r0:AC :=
 (.seq (rg [oo 2 (.mv (.c (.bool true)))])
 .ret)
def f3_ac:AC :=
 (.seq (rg [oo 2 (.mv (.c (.bool false)))])
 (.seq (.seq (rg [oo 5 (.mv (.t 0)),
 oo 6 (.len false (.t 5)),
 oo 7 (.mv (ci 0))])
 (.block 0 (.loop ⟨[0,5,6,7],[],[]⟩ f3_b0)))
 f3_r0))
noncomputable def f3_l0 (E:Env) (x0:U) (x5:U) (x6:U) (x7:U):Option U:=loopK (roundOf E ⟨[0,5,6,7],[],[]⟩ f3_b0 (blockK 0 (seqK (fun s=>exec E f3_r0 s (finish [(2,none)])) (finish [(2,none)])))) ([.val x0,.val x5,.val x6,.val x7],[])
theorem Qlo (E:Env) (x0:U) (x5:U) (x6:U) (x7:U):f3_l0 E x0 x5 x6 x7 =
 (U.bin .lss x7 x6).bind fun t2=>U.asBool t2
 (U.asInt x7 fun n3=>U.elemAt 2 x5 n3 fun e4=>U.asVar true 2 e4 fun e5=>if storable (.val e5) = true ∧ e5.size = 2 then U.asAgg e5 fun us6=>if 0 = sizes (us6.take 0) then (us6[0]?).bind fun e7=>U.asVar false 1 e7 fun e8=>(E 11 [e8]).bind fun t9=>(U.un .not t9).bind fun t10=>U.asBool t10
 (some (.bool false))
 (U.asAgg e5 fun us11=>if 1 = sizes (us11.take 1) then (us11[1]?).bind fun e12=>U.asVar false 1 e12 fun e13=>(E 9 [e13]).bind fun t14=>(U.un .not t14).bind fun t15=>U.asBool t15
 (some (.bool false))
 ((U.bin .gtr x7 (.int .i64 0)).bind fun t16=>U.asBool t16
 ((U.bin .sub x7 (.int .i64 1)).bind fun t17=>U.asInt t17 fun n18=>U.elemAt 2 x0 n18 fun e19=>U.fieldAt 0 0 e19 fun f20=>U.asVar false 1 f20 fun e21=>U.asAgg e5 fun us22=>if 0 = sizes (us22.take 0) then (us22[0]?).bind fun e23=>U.asVar false 1 e23 fun e24=>(U.bin .geq e21 e24).bind fun t25=>U.asBool t25
 (some (.bool false))
 ((U.bin .add x7 (.int .i64 1)).bind fun t26=>f3_l0 E x0 x5 x6 t26) else none)
 ((U.bin .add x7 (.int .i64 1)).bind fun t27=>f3_l0 E x0 x5 x6 t27)) else none) else none else none)
 (some (.bool true)):=(Qf E _ _ _ _).trans (by kernel_rfl)
structure G_f3 (E:Env):Prop where
 is:Is E 150 1 f3_ac [(2,none)]
 c_f33:G_f33 E
 c_f34:G_f34 E
theorem f3_E {E:Env} (h:G_f3 E) (a0:U):E 150 [a0] =
 (U.lenOf false a0).bind fun n1=>f3_l0 E a0 a0 (.int .i64 (n1:Int)) (.int .i64 0):=(h.is _ rfl).trans ((Qa rfl).trans (by kernel_rfl))
def f4_b0:AC :=
 (.seq (rg [oo 8 (.bin .lss (.t 7) (.t 6))])
 (.seq (.cond (.t 8) .skip (.exit 0))
 (.seq (.block 1 (.seq (rg [oo 9 (.mv (.t 7)),
 oo 10 (.iaddr 2 (.t 5) (.t 7)),
 oo 11 (.load true 2 (.t 10)),
 oo 4 (.alloc 4 (.agg [(.int .i64 0),(.int .i64 0)])),
 oo 3 (.mv (.t 9)),
 ⟨none,.store 2 (.t 4) (.t 11),none⟩])
 (.seq (.region 32 [oo 12 (.faddr 0 0 (.t 4)),
 oo 13 (.load false 1 (.t 12)),
 oo 14 (.call false 9 [(.t 13)]),
 oo 15 (.un .not (.t 14)),
 oo 16 (.mv (.t 15)),
 ⟨some 17,.faddr 1 1 (.t 4),some (16,false)⟩,
 ⟨some 18,.load false 1 (.t 17),some (16,false)⟩,
 ⟨some 19,.call false 9 [(.t 18)],some (16,false)⟩,
 ⟨some 20,.un .not (.t 19),some (16,false)⟩,
 oo 21 (.pick (.t 16) (.c (.bool true)) (.t 20)),
 oo 22 (.mv (.t 21)),
 ⟨some 23,.faddr 0 0 (.t 4),some (22,false)⟩,
 ⟨some 24,.load false 1 (.t 23),some (22,false)⟩,
 ⟨some 25,.faddr 1 1 (.t 4),some (22,false)⟩,
 ⟨some 26,.load false 1 (.t 25),some (22,false)⟩,
 ⟨some 27,.bin .eql (.t 24) (.t 26),some (22,false)⟩,
 oo 28 (.pick (.t 22) (.c (.bool true)) (.t 27)),
 oo 29 (.mv (.t 28)),
 ⟨some 30,.mv (.t 3),some (29,false)⟩,
 ⟨some 31,.bin .gtr (.t 30) (ci 0),some (29,false)⟩,
 ⟨some 32,.mv (.t 31),some (29,false)⟩,
 ⟨some 33,.mv (.t 0),some (32,true)⟩,
 ⟨some 34,.mv (.t 3),some (32,true)⟩,
 ⟨some 35,.bin .sub (.t 34) (ci 1),some (32,true)⟩,
 ⟨some 36,.iaddr 2 (.t 33) (.t 35),some (32,true)⟩,
 ⟨some 37,.faddr 0 0 (.t 36),some (32,true)⟩,
 ⟨some 38,.load false 1 (.t 37),some (32,true)⟩,
 ⟨some 39,.faddr 0 0 (.t 4),some (32,true)⟩,
 ⟨some 40,.load false 1 (.t 39),some (32,true)⟩,
 ⟨some 41,.bin .geq (.t 38) (.t 40),some (32,true)⟩,
 ⟨some 42,.pick (.t 32) (.t 41) (.c (.bool false)),some (29,false)⟩,
 oo 43 (.pick (.t 29) (.c (.bool true)) (.t 42))])
 (.cond (.t 43) (.seq (rg [oo 2 (.mv (.c (.bool false)))])
 .ret) .skip))))
 (rg [oo 44 (.bin .add (.t 7) (ci 1)),
 oo 7 (.mv (.t 44))]))))
def f4_r0:AC :=
 (.seq (rg [oo 2 (.mv (.c (.bool true)))])
 .ret)
def f4_ac:AC :=
 (.seq (rg [oo 2 (.mv (.c (.bool false)))])
 (.seq (.seq (rg [oo 5 (.mv (.t 0)),
 oo 6 (.len false (.t 5)),
 oo 7 (.mv (ci 0))])
 (.block 0 (.loop ⟨[0,5,6,7],[],[]⟩ f4_b0)))
 f4_r0))
noncomputable def f4_l0 (E:Env) (x0:U) (x5:U) (x6:U) (x7:U):Option U:=loopK (roundOf E ⟨[0,5,6,7],[],[]⟩ f4_b0 (blockK 0 (seqK (fun s=>exec E f4_r0 s (finish [(2,none)])) (finish [(2,none)])))) ([.val x0,.val x5,.val x6,.val x7],[])
theorem Ql4 (E:Env) (x0:U) (x5:U) (x6:U) (x7:U):f4_l0 E x0 x5 x6 x7 =
 (U.bin .lss x7 x6).bind fun t2=>U.asBool t2
 (U.asInt x7 fun n3=>U.elemAt 2 x5 n3 fun e4=>U.asVar true 2 e4 fun e5=>if storable (.val e5) = true ∧ e5.size = 2 then U.asAgg e5 fun us6=>if 0 = sizes (us6.take 0) then (us6[0]?).bind fun e7=>U.asVar false 1 e7 fun e8=>(E 9 [e8]).bind fun t9=>(U.un .not t9).bind fun t10=>U.asBool t10
 (some (.bool false))
 (U.asAgg e5 fun us11=>if 1 = sizes (us11.take 1) then (us11[1]?).bind fun e12=>U.asVar false 1 e12 fun e13=>(E 9 [e13]).bind fun t14=>(U.un .not t14).bind fun t15=>U.asBool t15
 (some (.bool false))
 (U.asAgg e5 fun us16=>if 0 = sizes (us16.take 0) then (us16[0]?).bind fun e17=>U.asVar false 1 e17 fun e18=>U.asAgg e5 fun us19=>if 1 = sizes (us19.take 1) then (us19[1]?).bind fun e20=>U.asVar false 1 e20 fun e21=>(U.bin .eql e18 e21).bind fun t22=>U.asBool t22
 (some (.bool false))
 ((U.bin .gtr x7 (.int .i64 0)).bind fun t23=>U.asBool t23
 ((U.bin .sub x7 (.int .i64 1)).bind fun t24=>U.asInt t24 fun n25=>U.elemAt 2 x0 n25 fun e26=>U.fieldAt 0 0 e26 fun f27=>U.asVar false 1 f27 fun e28=>U.asAgg e5 fun us29=>if 0 = sizes (us29.take 0) then (us29[0]?).bind fun e30=>U.asVar false 1 e30 fun e31=>(U.bin .geq e28 e31).bind fun t32=>U.asBool t32
 (some (.bool false))
 ((U.bin .add x7 (.int .i64 1)).bind fun t33=>f4_l0 E x0 x5 x6 t33) else none)
 ((U.bin .add x7 (.int .i64 1)).bind fun t34=>f4_l0 E x0 x5 x6 t34)) else none else none) else none) else none else none)
 (some (.bool true)):=(Qf E _ _ _ _).trans (by kernel_rfl)
structure G_f4 (E:Env):Prop where
 is:Is E 151 1 f4_ac [(2,none)]
 c_f33:G_f33 E
theorem f4_E {E:Env} (h:G_f4 E) (a0:U):E 151 [a0] =
 (U.lenOf false a0).bind fun n1=>f4_l0 E a0 a0 (.int .i64 (n1:Int)) (.int .i64 0):=(h.is _ rfl).trans ((Qa rfl).trans (by kernel_rfl))
def f24_b1:AC :=
 (.seq (rg [oo 18 (.bin .lss (.t 17) (.t 16))])
 (.seq (.cond (.t 18) .skip (.exit 2))
 (.seq (.block 3 (.seq (rg [oo 19 (.iaddr 5 (.t 15) (.t 17)),
 oo 20 (.load true 5 (.t 19)),
 oo 7 (.alloc 7 (.agg [(.int .i64 0),(.int .i64 0),(.int .i64 0),(.int .i64 0),(.int .i64 0)])),
 ⟨none,.store 5 (.t 7) (.t 20),none⟩])
 (rg [oo 21 (.mv (.t 3)),
 oo 22 (.faddr 3 3 (.t 7)),
 oo 23 (.load false 1 (.t 22)),
 oo 24 (.minmax true [(.t 21),(.t 23)]),
 oo 3 (.mv (.t 24))])))
 (rg [oo 25 (.bin .add (.t 17) (ci 1)),
 oo 17 (.mv (.t 25))]))))
def f24_r0:AC :=
 (rg [oo 26 (.bin .add (.t 11) (ci 1)),
 oo 11 (.mv (.t 26))])
def f24_b0:AC :=
 (.seq (rg [oo 12 (.bin .lss (.t 11) (.t 10))])
 (.seq (.cond (.t 12) .skip (.exit 0))
 (.seq (.block 1 (.seq (rg [oo 13 (.iaddr 1 (.t 9) (.t 11)),
 oo 14 (.load false 1 (.t 13)),
 oo 5 (.mv (.t 14))])
 (.seq (rg [oo 15 (.mv (.t 5)),
 oo 16 (.len false (.t 15)),
 oo 17 (.mv (ci 0))])
 (.block 2 (.loop ⟨[3,9,10,11,15,16,17],[],[]⟩ f24_b1)))))
 f24_r0)))
def f24_r1:AC :=
 (.seq (rg [oo 27 (.mv (.t 3)),
 oo 2 (.mv (.t 27))])
 .ret)
def f24_ac:AC :=
 (.seq (rg [oo 1 (.box false 1 (.t 0)),
 oo 2 (.mv (ci 0))])
 (.seq (rg [oo 3 (.mv (ci 0))])
 (.seq (.seq (rg [oo 8 (.faddr 0 0 (.t 1)),
 oo 9 (.load false 1 (.t 8)),
 oo 10 (.len false (.t 9)),
 oo 11 (.mv (ci 0))])
 (.block 0 (.loop ⟨[3,9,10,11],[],[]⟩ f24_b0)))
 f24_r1)))
noncomputable def f24_l0 (E:Env) (x3:U) (x9:U) (x10:U) (x11:U):Option U:=loopK (roundOf E ⟨[3,9,10,11],[],[]⟩ f24_b0 (blockK 0 (seqK (fun s=>exec E f24_r1 s (finish [(2,none)])) (finish [(2,none)])))) ([.val x3,.val x9,.val x10,.val x11],[])
noncomputable def f24_l1 (E:Env) (x3:U) (x9:U) (x10:U) (x11:U) (x15:U) (x16:U) (x17:U):Option U:=loopK (roundOf E ⟨[3,9,10,11,15,16,17],[],[]⟩ f24_b1 (blockK 2 (blockK 1 (seqK (fun s=>exec E f24_r0 s (roundK ⟨[3,9,10,11],[],[]⟩ (loopK (roundOf E ⟨[3,9,10,11],[],[]⟩ f24_b0 (blockK 0 (seqK (fun s=>exec E f24_r1 s (finish [(2,none)])) (finish [(2,none)]))))) (blockK 0 (seqK (fun s=>exec E f24_r1 s (finish [(2,none)])) (finish [(2,none)]))))) (roundK ⟨[3,9,10,11],[],[]⟩ (loopK (roundOf E ⟨[3,9,10,11],[],[]⟩ f24_b0 (blockK 0 (seqK (fun s=>exec E f24_r1 s (finish [(2,none)])) (finish [(2,none)]))))) (blockK 0 (seqK (fun s=>exec E f24_r1 s (finish [(2,none)])) (finish [(2,none)])))))))) ([.val x3,.val x9,.val x10,.val x11,.val x15,.val x16,.val x17],[])
theorem Qlh (E:Env) (x3:U) (x9:U) (x10:U) (x11:U):f24_l0 E x3 x9 x10 x11 =
 (U.bin .lss x11 x10).bind fun t6=>U.asBool t6
 (U.asInt x11 fun n7=>U.elemAt 1 x9 n7 fun e8=>U.asVar false 1 e8 fun e9=>(U.lenOf false e9).bind fun n10=>f24_l1 E x3 x9 x10 x11 e9 (.int .i64 (n10:Int)) (.int .i64 0))
 (some x3):=(Qf E _ _ _ _).trans (by kernel_rfl)
theorem Qli (E:Env) (x3:U) (x9:U) (x10:U) (x11:U) (x15:U) (x16:U) (x17:U):f24_l1 E x3 x9 x10 x11 x15 x16 x17 =
 (U.bin .lss x17 x16).bind fun t11=>U.asBool t11
 (U.asInt x17 fun n12=>U.elemAt 5 x15 n12 fun e13=>U.asVar true 5 e13 fun e14=>if storable (.val e14) = true ∧ e14.size = 5 then U.asAgg e14 fun us15=>if 3 = sizes (us15.take 3) then (us15[3]?).bind fun e16=>U.asVar false 1 e16 fun e17=>U.asInt x3 fun n18=>U.asInt e17 fun n19=>(U.bin .add x17 (.int .i64 1)).bind fun t20=>f24_l1 E (.int .i64 (([n19]:List Int).foldl (fun a b=>if true then (if a < b then b else a) else (if b < a then b else a)) n18)) x9 x10 x11 x15 x16 t20 else none else none)
 ((U.bin .add x11 (.int .i64 1)).bind fun t21=>f24_l0 E x3 x9 x10 t21):=(Qf E _ _ _ _).trans (by kernel_rfl)
structure G_f24 (E:Env):Prop where
 is:Is E 152 1 f24_ac [(2,none)]
theorem f24_E {E:Env} (h:G_f24 E) (a0:U):E 152 [a0] =
 U.noTup a0 fun x1=>U.asAgg x1 fun us2=>if 0 = sizes (us2.take 0) then (us2[0]?).bind fun e3=>U.asVar false 1 e3 fun e4=>(U.lenOf false e4).bind fun n5=>f24_l0 E (.int .i64 0) e4 (.int .i64 (n5:Int)) (.int .i64 0) else none:=(h.is _ rfl).trans ((Qa rfl).trans (by kernel_rfl))
def f14_ac:AC :=
 (.seq (rg [oo 2 (.mv (.c (.bool false)))])
 (.seq (rg [oo 3 (.mv (.t 0)),
 oo 4 (.call false 10 [(.t 3),(ci 1),(ci 999)]),
 oo 2 (.mv (.t 4))])
 .ret))
structure G_f14 (E:Env):Prop where
 is:Is E 72 1 f14_ac [(2,none)]
 c_f32:G_f32 E
theorem f14_E {E:Env} (h:G_f14 E) (a0:U):E 72 [a0] =
 (E 10 [a0,(.int .i64 1),(.int .i64 999)]).bind fun t1=>some t1:=(h.is _ rfl).trans ((Qa rfl).trans (by kernel_rfl))
def f2_ac:AC :=
 (.seq (rg [oo 2 (.mv (.c (.bool false)))])
 (.seq (rg [oo 3 (.mv (.t 0)),
 oo 4 (.mv (.t 0)),
 oo 5 (.bin .neq (.t 3) (.t 4)),
 oo 2 (.mv (.t 5))])
 .ret))
structure G_f2 (E:Env):Prop where
 is:Is E 15 1 f2_ac [(2,none)]
theorem f2_E {E:Env} (h:G_f2 E) (a0:U):E 15 [a0] =
 (U.bin .neq a0 a0).bind fun t1=>some t1:=(h.is _ rfl).trans ((Qa rfl).trans (by kernel_rfl))
def f0_ac:AC :=
 (.seq (rg [oo 4 (.mv (ci 0))])
 (.seq (rg [oo 7 (.mv (.t 0)),
 oo 8 (.call false 15 [(.t 7)]),
 oo 5 (.mv (.t 8))])
 (.seq (rg [oo 9 (.mv (.t 1)),
 oo 10 (.call false 15 [(.t 9)]),
 oo 6 (.mv (.t 10))])
 (.seq (.seq (rg [oo 11 (.mv (.t 5))])
 (.cond (.t 11) (.seq (.seq (rg [oo 12 (.mv (.t 6))])
 (.cond (.t 12) (.seq (rg [oo 4 (.mv (ci 0))])
 .ret) .skip))
 (.seq (rg [oo 4 (.mv (ci (-1)))])
 .ret)) .skip))
 (.seq (.seq (rg [oo 13 (.mv (.t 6))])
 (.cond (.t 13) (.seq (rg [oo 4 (.mv (ci 1))])
 .ret) .skip))
 (.seq (.seq (rg [oo 14 (.mv (.t 0)),
 oo 15 (.mv (.t 1)),
 oo 16 (.bin .lss (.t 14) (.t 15))])
 (.cond (.t 16) (.seq (rg [oo 4 (.mv (ci (-1)))])
 .ret) .skip))
 (.seq (.seq (rg [oo 17 (.mv (.t 0)),
 oo 18 (.mv (.t 1)),
 oo 19 (.bin .gtr (.t 17) (.t 18))])
 (.cond (.t 19) (.seq (rg [oo 4 (.mv (ci 1))])
 .ret) .skip))
 (.seq (rg [oo 4 (.mv (ci 0))])
 .ret))))))))
structure G_f0 (E:Env):Prop where
 is:Is E 13 2 f0_ac [(4,none)]
 c_f2:G_f2 E
theorem f0_E {E:Env} (h:G_f0 E) (a0 a1:U):E 13 [a0,a1] =
 (E 15 [a0]).bind fun t1=>(E 15 [a1]).bind fun t2=>U.asBool t1
 (U.asBool t2
 (some (.int .i64 0))
 (some (.int .i64 (-1))))
 (U.asBool t2
 (some (.int .i64 1))
 ((U.bin .lss a0 a1).bind fun t3=>U.asBool t3
 (some (.int .i64 (-1)))
 ((U.bin .gtr a0 a1).bind fun t4=>U.asBool t4
 (some (.int .i64 1))
 (some (.int .i64 0))))):=(h.is _ rfl).trans ((Qa rfl).trans (by kernel_rfl))
def f1_b0:AC :=
 (.seq (rg [oo 9 (.bin .lss (.t 8) (.t 7))])
 (.seq (.cond (.t 9) .skip (.exit 0))
 (.seq (.block 1 (.seq (rg [oo 10 (.iaddr 1 (.t 6) (.t 8)),
 oo 11 (.load false 1 (.t 10)),
 oo 5 (.mv (.t 11))])
 (.seq (rg [oo 12 (.mv (.t 5)),
 oo 13 (.mv (.t 3)),
 oo 14 (.bin .neq (.t 12) (.t 13))])
 (.cond (.t 14) (.seq (rg [oo 15 (.mv (.t 5)),
 oo 2 (.mv (.t 15))])
 .ret) .skip))))
 (rg [oo 16 (.bin .add (.t 8) (ci 1)),
 oo 8 (.mv (.t 16))]))))
def f1_r0:AC :=
 (.seq (rg [oo 17 (.mv (.t 3)),
 oo 2 (.mv (.t 17))])
 .ret)
def f1_ac:AC :=
 (.seq (rg [oo 2 (.mv (ci 0))])
 (.seq (rg [oo 3 (.mv (ci 0))])
 (.seq (.seq (rg [oo 6 (.mv (.t 0)),
 oo 7 (.len false (.t 6)),
 oo 8 (.mv (ci 0))])
 (.block 0 (.loop ⟨[3,6,7,8],[],[]⟩ f1_b0)))
 f1_r0)))
noncomputable def f1_l0 (E:Env) (x3:U) (x6:U) (x7:U) (x8:U):Option U:=loopK (roundOf E ⟨[3,6,7,8],[],[]⟩ f1_b0 (blockK 0 (seqK (fun s=>exec E f1_r0 s (finish [(2,none)])) (finish [(2,none)])))) ([.val x3,.val x6,.val x7,.val x8],[])
theorem Qlf (E:Env) (x3:U) (x6:U) (x7:U) (x8:U):f1_l0 E x3 x6 x7 x8 =
 (U.bin .lss x8 x7).bind fun t2=>U.asBool t2
 (U.asInt x8 fun n3=>U.elemAt 1 x6 n3 fun e4=>U.asVar false 1 e4 fun e5=>(U.bin .neq e5 x3).bind fun t6=>U.asBool t6
 (some e5)
 ((U.bin .add x8 (.int .i64 1)).bind fun t7=>f1_l0 E x3 x6 x7 t7))
 (some x3):=(Qf E _ _ _ _).trans (by kernel_rfl)
structure G_f1 (E:Env):Prop where
 is:Is E 14 1 f1_ac [(2,none)]
theorem f1_E {E:Env} (h:G_f1 E) (a0:U):E 14 [a0] =
 (U.lenOf false a0).bind fun n1=>f1_l0 E (.int .i64 0) a0 (.int .i64 (n1:Int)) (.int .i64 0):=(h.is _ rfl).trans ((Qa rfl).trans (by kernel_rfl))
def f31_ac:AC :=
 (.seq (rg [oo 2 (.box false 2 (.t 0)),
 oo 3 (.box false 3 (.t 1)),
 oo 4 (.mv (ci 0))])
 (.seq (.region 13 [oo 5 (.faddr 0 0 (.t 2)),
 oo 6 (.load false 1 (.t 5)),
 oo 7 (.faddr 0 0 (.t 3)),
 oo 8 (.load false 1 (.t 7)),
 oo 9 (.call false 13 [(.t 6),(.t 8)]),
 oo 10 (.faddr 1 1 (.t 2)),
 oo 11 (.load false 1 (.t 10)),
 oo 12 (.faddr 1 1 (.t 3)),
 oo 13 (.load false 1 (.t 12)),
 oo 14 (.call false 13 [(.t 11),(.t 13)]),
 oo 15 (.bslice 0 15 1 2 (.int .i64 0) [(0,(.t 9)),(1,(.t 14))]),
 oo 16 (.call false 14 [(.t 15)]),
 oo 4 (.mv (.t 16))])
 .ret))
structure G_f31 (E:Env):Prop where
 is:Is E 75 2 f31_ac [(4,none)]
 c_f0:G_f0 E
 c_f1:G_f1 E
theorem f31_E {E:Env} (h:G_f31 E) (a0 a1:U):E 75 [a0,a1] =
 U.noTup a0 fun x1=>U.noTup a1 fun x2=>U.asAgg x1 fun us3=>if 0 = sizes (us3.take 0) then (us3[0]?).bind fun e4=>U.asVar false 1 e4 fun e5=>U.asAgg x2 fun us6=>if 0 = sizes (us6.take 0) then (us6[0]?).bind fun e7=>U.asVar false 1 e7 fun e8=>(E 13 [e5,e8]).bind fun t9=>U.asAgg x1 fun us10=>if 1 = sizes (us10.take 1) then (us10[1]?).bind fun e11=>U.asVar false 1 e11 fun e12=>U.asAgg x2 fun us13=>if 1 = sizes (us13.take 1) then (us13[1]?).bind fun e14=>U.asVar false 1 e14 fun e15=>(E 13 [e12,e15]).bind fun t16=>if partable (.val t9) = true ∧ t9.size = 1 then if partable (.val t16) = true ∧ t16.size = 1 then (E 14 [(.sl 1 [t9,t16])]).bind fun t17=>some t17 else none else none else none else none else none else none:=(h.is _ rfl).trans ((Qa rfl).trans (by kernel_rfl))
def f29_b0:AC :=
 (.seq (rg [oo 8 (.bin .lss (.t 7) (.t 6))])
 (.seq (.cond (.t 8) .skip (.exit 0))
 (.seq (.block 1 (.seq (rg [oo 9 (.mv (.t 7)),
 oo 10 (.iaddr 2 (.t 5) (.t 7)),
 oo 11 (.load true 2 (.t 10)),
 oo 4 (.alloc 4 (.agg [(.int .i64 0),(.int .i64 0)])),
 oo 3 (.mv (.t 9)),
 ⟨none,.store 2 (.t 4) (.t 11),none⟩])
 (.seq (.region 24 [oo 12 (.faddr 0 0 (.t 4)),
 oo 13 (.load false 1 (.t 12)),
 oo 14 (.call false 11 [(.t 13)]),
 oo 15 (.un .not (.t 14)),
 oo 16 (.mv (.t 15)),
 ⟨some 17,.faddr 1 1 (.t 4),some (16,false)⟩,
 ⟨some 18,.load false 1 (.t 17),some (16,false)⟩,
 ⟨some 19,.call false 10 [(.t 18),(ci 0),(ci 999)],some (16,false)⟩,
 ⟨some 20,.un .not (.t 19),some (16,false)⟩,
 oo 21 (.pick (.t 16) (.c (.bool true)) (.t 20)),
 oo 22 (.mv (.t 21)),
 ⟨some 23,.mv (.t 3),some (22,false)⟩,
 ⟨some 24,.bin .gtr (.t 23) (ci 0),some (22,false)⟩,
 ⟨some 25,.mv (.t 24),some (22,false)⟩,
 ⟨some 26,.mv (.t 0),some (25,true)⟩,
 ⟨some 27,.mv (.t 3),some (25,true)⟩,
 ⟨some 28,.bin .sub (.t 27) (ci 1),some (25,true)⟩,
 ⟨some 29,.iaddr 2 (.t 26) (.t 28),some (25,true)⟩,
 ⟨some 30,.load true 2 (.t 29),some (25,true)⟩,
 ⟨some 31,.load true 2 (.t 4),some (25,true)⟩,
 ⟨some 32,.call false 75 [(.t 30),(.t 31)],some (25,true)⟩,
 ⟨some 33,.bin .geq (.t 32) (ci 0),some (25,true)⟩,
 ⟨some 34,.pick (.t 25) (.t 33) (.c (.bool false)),some (22,false)⟩,
 oo 35 (.pick (.t 22) (.c (.bool true)) (.t 34))])
 (.cond (.t 35) (.seq (rg [oo 2 (.mv (.c (.bool false)))])
 .ret) .skip))))
 (rg [oo 36 (.bin .add (.t 7) (ci 1)),
 oo 7 (.mv (.t 36))]))))
def f29_r0:AC :=
 (.seq (rg [oo 37 (.mv (.t 0)),
 oo 38 (.len false (.t 37)),
 oo 39 (.bin .leq (.t 38) (ci 60)),
 oo 2 (.mv (.t 39))])
 .ret)
def f29_ac:AC :=
 (.seq (rg [oo 2 (.mv (.c (.bool false)))])
 (.seq (.seq (rg [oo 5 (.mv (.t 0)),
 oo 6 (.len false (.t 5)),
 oo 7 (.mv (ci 0))])
 (.block 0 (.loop ⟨[0,5,6,7],[],[]⟩ f29_b0)))
 f29_r0))
noncomputable def f29_l0 (E:Env) (x0:U) (x5:U) (x6:U) (x7:U):Option U:=loopK (roundOf E ⟨[0,5,6,7],[],[]⟩ f29_b0 (blockK 0 (seqK (fun s=>exec E f29_r0 s (finish [(2,none)])) (finish [(2,none)])))) ([.val x0,.val x5,.val x6,.val x7],[])
theorem Qlj (E:Env) (x0:U) (x5:U) (x6:U) (x7:U):f29_l0 E x0 x5 x6 x7 =
 (U.bin .lss x7 x6).bind fun t2=>U.asBool t2
 (U.asInt x7 fun n3=>U.elemAt 2 x5 n3 fun e4=>U.asVar true 2 e4 fun e5=>if storable (.val e5) = true ∧ e5.size = 2 then U.asAgg e5 fun us6=>if 0 = sizes (us6.take 0) then (us6[0]?).bind fun e7=>U.asVar false 1 e7 fun e8=>(E 11 [e8]).bind fun t9=>(U.un .not t9).bind fun t10=>U.asBool t10
 (some (.bool false))
 (U.asAgg e5 fun us11=>if 1 = sizes (us11.take 1) then (us11[1]?).bind fun e12=>U.asVar false 1 e12 fun e13=>(E 10 [e13,(.int .i64 0),(.int .i64 999)]).bind fun t14=>(U.un .not t14).bind fun t15=>U.asBool t15
 (some (.bool false))
 ((U.bin .gtr x7 (.int .i64 0)).bind fun t16=>U.asBool t16
 ((U.bin .sub x7 (.int .i64 1)).bind fun t17=>U.asInt t17 fun n18=>U.elemAt 2 x0 n18 fun e19=>U.asVar true 2 e19 fun e20=>U.asVar true 2 e5 fun e21=>(E 75 [e20,e21]).bind fun t22=>(U.bin .geq t22 (.int .i64 0)).bind fun t23=>U.asBool t23
 (some (.bool false))
 ((U.bin .add x7 (.int .i64 1)).bind fun t24=>f29_l0 E x0 x5 x6 t24))
 ((U.bin .add x7 (.int .i64 1)).bind fun t25=>f29_l0 E x0 x5 x6 t25)) else none) else none else none)
 ((U.lenOf false x0).bind fun n26=>(U.bin .leq (.int .i64 (n26:Int)) (.int .i64 60)).bind fun t27=>some t27):=(Qf E _ _ _ _).trans (by kernel_rfl)
structure G_f29 (E:Env):Prop where
 is:Is E 73 1 f29_ac [(2,none)]
 c_f32:G_f32 E
 c_f34:G_f34 E
 c_f31:G_f31 E
theorem f29_E {E:Env} (h:G_f29 E) (a0:U):E 73 [a0] =
 (U.lenOf false a0).bind fun n1=>f29_l0 E a0 a0 (.int .i64 (n1:Int)) (.int .i64 0):=(h.is _ rfl).trans ((Qa rfl).trans (by kernel_rfl))
def f30_b0:AC :=
 (.seq (rg [oo 8 (.bin .lss (.t 7) (.t 6))])
 (.seq (.cond (.t 8) .skip (.exit 0))
 (.seq (.block 1 (.seq (rg [oo 9 (.mv (.t 7)),
 oo 10 (.iaddr 2 (.t 5) (.t 7)),
 oo 11 (.load true 2 (.t 10)),
 oo 4 (.alloc 4 (.agg [(.int .i64 0),(.int .i64 0)])),
 oo 3 (.mv (.t 9)),
 ⟨none,.store 2 (.t 4) (.t 11),none⟩])
 (.seq (.region 25 [oo 12 (.faddr 0 0 (.t 4)),
 oo 13 (.load false 1 (.t 12)),
 oo 14 (.call false 11 [(.t 13)]),
 oo 15 (.un .not (.t 14)),
 oo 16 (.mv (.t 15)),
 ⟨some 17,.faddr 1 1 (.t 4),some (16,false)⟩,
 ⟨some 18,.load false 1 (.t 17),some (16,false)⟩,
 ⟨some 19,.call false 76 [(.t 18)],some (16,false)⟩,
 ⟨some 20,.un .not (.t 19),some (16,false)⟩,
 oo 21 (.pick (.t 16) (.c (.bool true)) (.t 20)),
 oo 22 (.mv (.t 21)),
 ⟨some 23,.mv (.t 3),some (22,false)⟩,
 ⟨some 24,.bin .gtr (.t 23) (ci 0),some (22,false)⟩,
 ⟨some 25,.mv (.t 24),some (22,false)⟩,
 ⟨some 26,.mv (.t 0),some (25,true)⟩,
 ⟨some 27,.mv (.t 3),some (25,true)⟩,
 ⟨some 28,.bin .sub (.t 27) (ci 1),some (25,true)⟩,
 ⟨some 29,.iaddr 2 (.t 26) (.t 28),some (25,true)⟩,
 ⟨some 30,.faddr 0 0 (.t 29),some (25,true)⟩,
 ⟨some 31,.load false 1 (.t 30),some (25,true)⟩,
 ⟨some 32,.faddr 0 0 (.t 4),some (25,true)⟩,
 ⟨some 33,.load false 1 (.t 32),some (25,true)⟩,
 ⟨some 34,.bin .geq (.t 31) (.t 33),some (25,true)⟩,
 ⟨some 35,.pick (.t 25) (.t 34) (.c (.bool false)),some (22,false)⟩,
 oo 36 (.pick (.t 22) (.c (.bool true)) (.t 35))])
 (.cond (.t 36) (.seq (rg [oo 2 (.mv (.c (.bool false)))])
 .ret) .skip))))
 (rg [oo 37 (.bin .add (.t 7) (ci 1)),
 oo 7 (.mv (.t 37))]))))
def f30_r0:AC :=
 (.seq (rg [oo 2 (.mv (.c (.bool true)))])
 .ret)
def f30_ac:AC :=
 (.seq (rg [oo 2 (.mv (.c (.bool false)))])
 (.seq (.seq (rg [oo 5 (.mv (.t 0)),
 oo 6 (.len false (.t 5)),
 oo 7 (.mv (ci 0))])
 (.block 0 (.loop ⟨[0,5,6,7],[],[]⟩ f30_b0)))
 f30_r0))
noncomputable def f30_l0 (E:Env) (x0:U) (x5:U) (x6:U) (x7:U):Option U:=loopK (roundOf E ⟨[0,5,6,7],[],[]⟩ f30_b0 (blockK 0 (seqK (fun s=>exec E f30_r0 s (finish [(2,none)])) (finish [(2,none)])))) ([.val x0,.val x5,.val x6,.val x7],[])
theorem Qll (E:Env) (x0:U) (x5:U) (x6:U) (x7:U):f30_l0 E x0 x5 x6 x7 =
 (U.bin .lss x7 x6).bind fun t2=>U.asBool t2
 (U.asInt x7 fun n3=>U.elemAt 2 x5 n3 fun e4=>U.asVar true 2 e4 fun e5=>if storable (.val e5) = true ∧ e5.size = 2 then U.asAgg e5 fun us6=>if 0 = sizes (us6.take 0) then (us6[0]?).bind fun e7=>U.asVar false 1 e7 fun e8=>(E 11 [e8]).bind fun t9=>(U.un .not t9).bind fun t10=>U.asBool t10
 (some (.bool false))
 (U.asAgg e5 fun us11=>if 1 = sizes (us11.take 1) then (us11[1]?).bind fun e12=>U.asVar false 1 e12 fun e13=>(E 76 [e13]).bind fun t14=>(U.un .not t14).bind fun t15=>U.asBool t15
 (some (.bool false))
 ((U.bin .gtr x7 (.int .i64 0)).bind fun t16=>U.asBool t16
 ((U.bin .sub x7 (.int .i64 1)).bind fun t17=>U.asInt t17 fun n18=>U.elemAt 2 x0 n18 fun e19=>U.fieldAt 0 0 e19 fun f20=>U.asVar false 1 f20 fun e21=>U.asAgg e5 fun us22=>if 0 = sizes (us22.take 0) then (us22[0]?).bind fun e23=>U.asVar false 1 e23 fun e24=>(U.bin .geq e21 e24).bind fun t25=>U.asBool t25
 (some (.bool false))
 ((U.bin .add x7 (.int .i64 1)).bind fun t26=>f30_l0 E x0 x5 x6 t26) else none)
 ((U.bin .add x7 (.int .i64 1)).bind fun t27=>f30_l0 E x0 x5 x6 t27)) else none) else none else none)
 (some (.bool true)):=(Qf E _ _ _ _).trans (by kernel_rfl)
structure G_f30 (E:Env):Prop where
 is:Is E 74 1 f30_ac [(2,none)]
 c_f34:G_f34 E
 c_f36:G_f36 E
theorem f30_E {E:Env} (h:G_f30 E) (a0:U):E 74 [a0] =
 (U.lenOf false a0).bind fun n1=>f30_l0 E a0 a0 (.int .i64 (n1:Int)) (.int .i64 0):=(h.is _ rfl).trans ((Qa rfl).trans (by kernel_rfl))
def f35_ac:AC :=
 (.seq (rg [oo 2 (.mv (.c (.bool false)))])
 (.seq (rg [oo 3 (.mv (.t 0)),
 oo 4 (.call false 10 [(.t 3),(ci 1),(ci 4)]),
 oo 2 (.mv (.t 4))])
 .ret))
structure G_f35 (E:Env):Prop where
 is:Is E 160 1 f35_ac [(2,none)]
 c_f32:G_f32 E
theorem f35_E {E:Env} (h:G_f35 E) (a0:U):E 160 [a0] =
 (E 10 [a0,(.int .i64 1),(.int .i64 4)]).bind fun t1=>some t1:=(h.is _ rfl).trans ((Qa rfl).trans (by kernel_rfl))
end Go.Proofs.YtlgblpngiamhaaaGreat.Am
