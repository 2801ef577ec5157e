import Derived.KernelRfl
import Derived.Test.YtlgblpngiamhaaaGreatHistoryOfF0
import Derived.Test.YtlgblpngiamhaaaGreatAmW
import Derived.Test.YtlgblpngiamhaaaGreatAmCl
import Derived.Test.YtlgblpngiamhaaaGreatAmX
import Derived.Test.YtlgblpngiamhaaaGreatAmSs
namespace Go.Proofs.YtlgblpngiamhaaaGreat.Am
open Go
set_option linter.unusedVariables false
set_option maxRecDepth 100000
def f21_ac:AC :=
 (.seq (rg [oo 1 (.box false 1 (.t 0)),
 oo 2 (.mv (.c (.bool false)))])
 (.seq (.seq (rg [oo 3 (.faddr 0 0 (.t 1)),
 oo 4 (.load false 1 (.t 3)),
 oo 5 (.call false 9 [(.t 4)]),
 oo 6 (.un .not (.t 5)),
 oo 7 (.mv (.t 6)),
 ⟨some 8,.faddr 1 1 (.t 1),some (7,false)⟩,
 ⟨some 9,.load false 1 (.t 8),some (7,false)⟩,
 ⟨some 10,.call false 160 [(.t 9)],some (7,false)⟩,
 ⟨some 11,.un .not (.t 10),some (7,false)⟩,
 oo 12 (.pick (.t 7) (.c (.bool true)) (.t 11)),
 oo 13 (.mv (.t 12)),
 ⟨some 14,.faddr 2 2 (.t 1),some (13,false)⟩,
 ⟨some 15,.load false 1 (.t 14),some (13,false)⟩,
 ⟨some 16,.call false 10 [(.t 15),(ci 1),(ci 3)],some (13,false)⟩,
 ⟨some 17,.un .not (.t 16),some (13,false)⟩,
 oo 18 (.pick (.t 13) (.c (.bool true)) (.t 17)),
 oo 19 (.mv (.t 18)),
 ⟨some 20,.faddr 3 3 (.t 1),some (19,false)⟩,
 ⟨some 21,.load false 1 (.t 20),some (19,false)⟩,
 ⟨some 22,.call false 10 [(.t 21),(ci 0),(ci 999)],some (19,false)⟩,
 ⟨some 23,.un .not (.t 22),some (19,false)⟩,
 oo 24 (.pick (.t 19) (.c (.bool true)) (.t 23)),
 oo 25 (.mv (.t 24)),
 ⟨some 26,.faddr 4 4 (.t 1),some (25,false)⟩,
 ⟨some 27,.load false 1 (.t 26),some (25,false)⟩,
 ⟨some 28,.call false 10 [(.t 27),(ci 0),(ci 999)],some (25,false)⟩,
 ⟨some 29,.un .not (.t 28),some (25,false)⟩,
 oo 30 (.pick (.t 25) (.c (.bool true)) (.t 29)),
 oo 31 (.mv (.t 30)),
 ⟨some 32,.faddr 5 5 (.t 1),some (31,false)⟩,
 ⟨some 33,.load false 1 (.t 32),some (31,false)⟩,
 ⟨some 34,.call false 10 [(.t 33),(ci 1),(ci 1000)],some (31,false)⟩,
 ⟨some 35,.un .not (.t 34),some (31,false)⟩,
 oo 36 (.pick (.t 31) (.c (.bool true)) (.t 35))])
 (.cond (.t 36) (.seq (rg [oo 2 (.mv (.c (.bool false)))])
 .ret) .skip))
 (.seq (.seq (rg [oo 37 (.faddr 2 2 (.t 1)),
 oo 38 (.load false 1 (.t 37)),
 oo 39 (.bin .eql (.t 38) (ci 2)),
 oo 40 (.mv (.t 39)),
 ⟨some 41,.faddr 6 6 (.t 1),some (40,true)⟩,
 ⟨some 42,.load false 1 (.t 41),some (40,true)⟩,
 ⟨some 43,.call false 72 [(.t 42)],some (40,true)⟩,
 ⟨some 44,.un .not (.t 43),some (40,true)⟩,
 oo 45 (.pick (.t 40) (.t 44) (.c (.bool false))),
 oo 46 (.mv (.t 45)),
 ⟨some 47,.faddr 2 2 (.t 1),some (46,false)⟩,
 ⟨some 48,.load false 1 (.t 47),some (46,false)⟩,
 ⟨some 49,.bin .neq (.t 48) (ci 2),some (46,false)⟩,
 ⟨some 50,.mv (.t 49),some (46,false)⟩,
 ⟨some 51,.faddr 6 6 (.t 1),some (50,true)⟩,
 ⟨some 52,.load false 1 (.t 51),some (50,true)⟩,
 ⟨some 53,.bin .neq (.t 52) (ci 0),some (50,true)⟩,
 ⟨some 54,.pick (.t 50) (.t 53) (.c (.bool false)),some (46,false)⟩,
 oo 55 (.pick (.t 46) (.c (.bool true)) (.t 54))])
 (.cond (.t 55) (.seq (rg [oo 2 (.mv (.c (.bool false)))])
 .ret) .skip))
 (.seq (rg [oo 56 (.faddr 7 7 (.t 1)),
 oo 57 (.load false 1 (.t 56)),
 oo 58 (.call false 73 [(.t 57)]),
 oo 59 (.mv (.t 58)),
 ⟨some 60,.faddr 8 8 (.t 1),some (59,true)⟩,
 ⟨some 61,.load false 1 (.t 60),some (59,true)⟩,
 ⟨some 62,.call false 74 [(.t 61)],some (59,true)⟩,
 oo 63 (.pick (.t 59) (.t 62) (.c (.bool false))),
 oo 2 (.mv (.t 63))])
 .ret))))
structure G_f21 (E:Env):Prop where
 is:Is E 159 1 f21_ac [(2,none)]
 c_f32:G_f32 E
 c_f33:G_f33 E
 c_f14:G_f14 E
 c_f29:G_f29 E
 c_f30:G_f30 E
 c_f35:G_f35 E
theorem f21_E {E:Env} (h:G_f21 E) (a0:U):E 159 [a0] =
 U.noTup a0 fun x1=>U.asAgg x1 fun us2=>if 0 = sizes (us2.take 0) then (us2[0]?).bind fun e3=>U.asVar false 1 e3 fun e4=>(E 9 [e4]).bind fun t5=>(U.un .not t5).bind fun t6=>U.asBool t6
 (some (.bool false))
 (U.asAgg x1 fun us7=>if 1 = sizes (us7.take 1) then (us7[1]?).bind fun e8=>U.asVar false 1 e8 fun e9=>(E 160 [e9]).bind fun t10=>(U.un .not t10).bind fun t11=>U.asBool t11
 (some (.bool false))
 (U.asAgg x1 fun us12=>if 2 = sizes (us12.take 2) then (us12[2]?).bind fun e13=>U.asVar false 1 e13 fun e14=>(E 10 [e14,(.int .i64 1),(.int .i64 3)]).bind fun t15=>(U.un .not t15).bind fun t16=>U.asBool t16
 (some (.bool false))
 (U.asAgg x1 fun us17=>if 3 = sizes (us17.take 3) then (us17[3]?).bind fun e18=>U.asVar false 1 e18 fun e19=>(E 10 [e19,(.int .i64 0),(.int .i64 999)]).bind fun t20=>(U.un .not t20).bind fun t21=>U.asBool t21
 (some (.bool false))
 (U.asAgg x1 fun us22=>if 4 = sizes (us22.take 4) then (us22[4]?).bind fun e23=>U.asVar false 1 e23 fun e24=>(E 10 [e24,(.int .i64 0),(.int .i64 999)]).bind fun t25=>(U.un .not t25).bind fun t26=>U.asBool t26
 (some (.bool false))
 (U.asAgg x1 fun us27=>if 5 = sizes (us27.take 5) then (us27[5]?).bind fun e28=>U.asVar false 1 e28 fun e29=>(E 10 [e29,(.int .i64 1),(.int .i64 1000)]).bind fun t30=>(U.un .not t30).bind fun t31=>U.asBool t31
 (some (.bool false))
 (U.asAgg x1 fun us32=>if 2 = sizes (us32.take 2) then (us32[2]?).bind fun e33=>U.asVar false 1 e33 fun e34=>(U.bin .eql e34 (.int .i64 2)).bind fun t35=>U.asBool t35
 (U.asAgg x1 fun us36=>if 6 = sizes (us36.take 6) then (us36[6]?).bind fun e37=>U.asVar false 1 e37 fun e38=>(E 72 [e38]).bind fun t39=>(U.un .not t39).bind fun t40=>U.asBool t40
 (some (.bool false))
 (U.asAgg x1 fun us41=>if 2 = sizes (us41.take 2) then (us41[2]?).bind fun e42=>U.asVar false 1 e42 fun e43=>(U.bin .neq e43 (.int .i64 2)).bind fun t44=>U.asBool t44
 (U.asAgg x1 fun us45=>if 6 = sizes (us45.take 6) then (us45[6]?).bind fun e46=>U.asVar false 1 e46 fun e47=>(U.bin .neq e47 (.int .i64 0)).bind fun t48=>U.asBool t48
 (some (.bool false))
 (U.asAgg x1 fun us49=>if 7 = sizes (us49.take 7) then (us49[7]?).bind fun e50=>U.asVar false 1 e50 fun e51=>(E 73 [e51]).bind fun t52=>U.asBool t52
 (U.asAgg x1 fun us53=>if 8 = sizes (us53.take 8) then (us53[8]?).bind fun e54=>U.asVar false 1 e54 fun e55=>(E 74 [e55]).bind fun t56=>some t56 else none)
 (some (.bool false)) else none) else none)
 (U.asAgg x1 fun us57=>if 7 = sizes (us57.take 7) then (us57[7]?).bind fun e58=>U.asVar false 1 e58 fun e59=>(E 73 [e59]).bind fun t60=>U.asBool t60
 (U.asAgg x1 fun us61=>if 8 = sizes (us61.take 8) then (us61[8]?).bind fun e62=>U.asVar false 1 e62 fun e63=>(E 74 [e63]).bind fun t64=>some t64 else none)
 (some (.bool false)) else none) else none) else none)
 (U.asAgg x1 fun us65=>if 2 = sizes (us65.take 2) then (us65[2]?).bind fun e66=>U.asVar false 1 e66 fun e67=>(U.bin .neq e67 (.int .i64 2)).bind fun t68=>U.asBool t68
 (U.asAgg x1 fun us69=>if 6 = sizes (us69.take 6) then (us69[6]?).bind fun e70=>U.asVar false 1 e70 fun e71=>(U.bin .neq e71 (.int .i64 0)).bind fun t72=>U.asBool t72
 (some (.bool false))
 (U.asAgg x1 fun us73=>if 7 = sizes (us73.take 7) then (us73[7]?).bind fun e74=>U.asVar false 1 e74 fun e75=>(E 73 [e75]).bind fun t76=>U.asBool t76
 (U.asAgg x1 fun us77=>if 8 = sizes (us77.take 8) then (us77[8]?).bind fun e78=>U.asVar false 1 e78 fun e79=>(E 74 [e79]).bind fun t80=>some t80 else none)
 (some (.bool false)) else none) else none)
 (U.asAgg x1 fun us81=>if 7 = sizes (us81.take 7) then (us81[7]?).bind fun e82=>U.asVar false 1 e82 fun e83=>(E 73 [e83]).bind fun t84=>U.asBool t84
 (U.asAgg x1 fun us85=>if 8 = sizes (us85.take 8) then (us85[8]?).bind fun e86=>U.asVar false 1 e86 fun e87=>(E 74 [e87]).bind fun t88=>some t88 else none)
 (some (.bool false)) else none) else none) else none) else none) else none) else none) else none) else none) else none:=(h.is _ rfl).trans ((Qa rfl).trans (by kernel_rfl))
def f114_b0:AC :=
 (.seq (rg [oo 9 (.bin .lss (.t 8) (.t 7))])
 (.seq (.cond (.t 9) .skip (.exit 0))
 (.seq (.block 1 (.seq (rg [oo 10 (.mv (.t 8)),
 oo 5 (.mv (.t 10))])
 (.seq (rg [oo 11 (.mv (.t 1)),
 oo 12 (.mv (.t 0)),
 oo 13 (.mv (.t 5)),
 oo 14 (.iaddr 2 (.t 12) (.t 13)),
 oo 15 (.load true 2 (.t 14)),
 oo 16 (.callv false (.t 11) [(.t 15)])])
 (.cond (.t 16) (.seq (rg [oo 17 (.mv (.t 5)),
 oo 4 (.mv (.t 17))])
 .ret) .skip))))
 (rg [oo 18 (.bin .add (.t 8) (ci 1)),
 oo 8 (.mv (.t 18))]))))
def f114_r0:AC :=
 (.seq (rg [oo 4 (.mv (ci (-1)))])
 .ret)
def f114_ac:AC :=
 (.seq (rg [oo 4 (.mv (ci 0))])
 (.seq (.seq (rg [oo 6 (.mv (.t 0)),
 oo 7 (.len false (.t 6)),
 oo 8 (.mv (ci 0))])
 (.block 0 (.loop ⟨[0,1,7,8],[],[]⟩ f114_b0)))
 f114_r0))
noncomputable def f114_l0 (E:Env) (x0:U) (x1:U) (x7:U) (x8:U):Option U:=loopK (roundOf E ⟨[0,1,7,8],[],[]⟩ f114_b0 (blockK 0 (seqK (fun s=>exec E f114_r0 s (finish [(4,none)])) (finish [(4,none)])))) ([.val x0,.val x1,.val x7,.val x8],[])
theorem Qj8 (E:Env) (x0:U) (x1:U) (x7:U) (x8:U):f114_l0 E x0 x1 x7 x8 =
 (U.bin .lss x8 x7).bind fun t2=>U.asBool t2
 (U.asInt x8 fun n3=>U.elemAt 2 x0 n3 fun e4=>U.asVar true 2 e4 fun e5=>U.asFn x1 fun r6 caps7=>(E r6 ([e5] ++ caps7)).bind fun t8=>U.asBool t8
 (some x8)
 ((U.bin .add x8 (.int .i64 1)).bind fun t9=>f114_l0 E x0 x1 x7 t9))
 (some (.int .i64 (-1))):=(Qf E _ _ _ _).trans (by kernel_rfl)
structure G_f114 (E:Env):Prop where
 is:Is E 163 2 f114_ac [(4,none)]
theorem Quk {E:Env} (h:G_f114 E) (a0 a1:U):E 163 [a0,a1] =
 (U.lenOf false a0).bind fun n1=>f114_l0 E a0 a1 (.int .i64 (n1:Int)) (.int .i64 0):=(h.is _ rfl).trans ((Qa rfl).trans (by kernel_rfl))
def f112_ac:AC :=
 (.seq (rg [oo 4 (.mv (.c (.bool false)))])
 (.seq (rg [oo 5 (.mv (.t 0)),
 oo 6 (.mv (.t 1)),
 oo 7 (.call false 163 [(.t 5),(.t 6)]),
 oo 8 (.bin .geq (.t 7) (ci 0)),
 oo 4 (.mv (.t 8))])
 .ret))
structure G_f112 (E:Env):Prop where
 is:Is E 162 2 f112_ac [(4,none)]
 c_f114:G_f114 E
theorem Que {E:Env} (h:G_f112 E) (a0 a1:U):E 162 [a0,a1] =
 (E 163 [a0,a1]).bind fun t1=>(U.bin .geq t1 (.int .i64 0)).bind fun t2=>some t2:=(h.is _ rfl).trans ((Qa rfl).trans (by kernel_rfl))
def f115_b0:AC :=
 (.seq (rg [oo 9 (.bin .lss (.t 8) (.t 7))])
 (.seq (.cond (.t 9) .skip (.exit 0))
 (.seq (.block 1 (.seq (rg [oo 10 (.mv (.t 8)),
 oo 5 (.mv (.t 10))])
 (.seq (rg [oo 11 (.mv (.t 1)),
 oo 12 (.mv (.t 0)),
 oo 13 (.mv (.t 5)),
 oo 14 (.iaddr 5 (.t 12) (.t 13)),
 oo 15 (.load true 5 (.t 14)),
 oo 16 (.callv false (.t 11) [(.t 15)])])
 (.cond (.t 16) (.seq (rg [oo 17 (.mv (.t 5)),
 oo 4 (.mv (.t 17))])
 .ret) .skip))))
 (rg [oo 18 (.bin .add (.t 8) (ci 1)),
 oo 8 (.mv (.t 18))]))))
def f115_r0:AC :=
 (.seq (rg [oo 4 (.mv (ci (-1)))])
 .ret)
def f115_ac:AC :=
 (.seq (rg [oo 4 (.mv (ci 0))])
 (.seq (.seq (rg [oo 6 (.mv (.t 0)),
 oo 7 (.len false (.t 6)),
 oo 8 (.mv (ci 0))])
 (.block 0 (.loop ⟨[0,1,7,8],[],[]⟩ f115_b0)))
 f115_r0))
noncomputable def f115_l0 (E:Env) (x0:U) (x1:U) (x7:U) (x8:U):Option U:=loopK (roundOf E ⟨[0,1,7,8],[],[]⟩ f115_b0 (blockK 0 (seqK (fun s=>exec E f115_r0 s (finish [(4,none)])) (finish [(4,none)])))) ([.val x0,.val x1,.val x7,.val x8],[])
theorem Qka (E:Env) (x0:U) (x1:U) (x7:U) (x8:U):f115_l0 E x0 x1 x7 x8 =
 (U.bin .lss x8 x7).bind fun t2=>U.asBool t2
 (U.asInt x8 fun n3=>U.elemAt 5 x0 n3 fun e4=>U.asVar true 5 e4 fun e5=>U.asFn x1 fun r6 caps7=>(E r6 ([e5] ++ caps7)).bind fun t8=>U.asBool t8
 (some x8)
 ((U.bin .add x8 (.int .i64 1)).bind fun t9=>f115_l0 E x0 x1 x7 t9))
 (some (.int .i64 (-1))):=(Qf E _ _ _ _).trans (by kernel_rfl)
structure G_f115 (E:Env):Prop where
 is:Is E 167 2 f115_ac [(4,none)]
theorem Qun {E:Env} (h:G_f115 E) (a0 a1:U):E 167 [a0,a1] =
 (U.lenOf false a0).bind fun n1=>f115_l0 E a0 a1 (.int .i64 (n1:Int)) (.int .i64 0):=(h.is _ rfl).trans ((Qa rfl).trans (by kernel_rfl))
def f10_ac:AC :=
 (.seq (rg [oo 2 (.box false 2 (.t 0)),
 oo 3 (.mv (.c (.bool false)))])
 (.seq (rg [oo 4 (.faddr 2 2 (.t 2)),
 oo 5 (.load false 1 (.t 4)),
 oo 6 (.load false 1 (.t 1)),
 oo 7 (.bin .eql (.t 5) (.t 6)),
 oo 3 (.mv (.t 7))])
 .ret))
structure G_f10 (E:Env):Prop where
 is:Is E 166 2 f10_ac [(3,none)]
theorem f10_E {E:Env} (h:G_f10 E) (a0 a1:U):E 166 [a0,a1] =
 U.noTup a0 fun x1=>U.asAgg x1 fun us2=>if 2 = sizes (us2.take 2) then (us2[2]?).bind fun e3=>U.asVar false 1 e3 fun e4=>U.asVp a1 fun v5=>U.asVar false 1 v5 fun e6=>(U.bin .eql e4 e6).bind fun t7=>some t7 else none:=(h.is _ rfl).trans ((Qa rfl).trans (by kernel_rfl))
def f9_ac:AC :=
 (.seq (rg [oo 3 (.box true 3 (.t 1)),
 oo 4 (.mv (ci 0))])
 (.seq (rg [oo 5 (.mv (.t 0)),
 oo 6 (.mkfn 166 [(.t 3)]),
 oo 7 (.call false 167 [(.t 5),(.t 6)]),
 oo 4 (.mv (.t 7))])
 .ret))
structure G_f9 (E:Env):Prop where
 is:Is E 165 2 f9_ac [(4,none)]
 c_f115:G_f115 E
 c_f10:G_f10 E
theorem f9_E {E:Env} (h:G_f9 E) (a0 a1:U):E 165 [a0,a1] =
 U.noTup a1 fun x1=>(E 167 [a0,(.fn 166 [(.vp x1)])]).bind fun t2=>U.asFlat t2 fun t3=>some t3:=(h.is _ rfl).trans ((Qa rfl).trans (by kernel_rfl))
def f23_ac:AC :=
 (.seq (rg [oo 2 (.box false 2 (.t 0)),
 oo 3 (.box false 3 (.t 1)),
 oo 4 (.mv (.c .nil))])
 (.seq (rg [oo 7 (.faddr 0 0 (.t 2)),
 oo 8 (.load false 1 (.t 7)),
 oo 9 (.faddr 0 0 (.t 3)),
 oo 10 (.load false 1 (.t 9)),
 oo 11 (.iaddr 1 (.t 8) (.t 10)),
 oo 12 (.load false 1 (.t 11)),
 oo 5 (.mv (.t 12))])
 (.seq (rg [oo 13 (.mv (.t 5)),
 oo 14 (.faddr 1 1 (.t 3)),
 oo 15 (.load false 1 (.t 14)),
 oo 16 (.call false 165 [(.t 13),(.t 15)]),
 oo 6 (.mv (.t 16))])
 (.seq (.seq (rg [oo 17 (.mv (.t 6)),
 oo 18 (.bin .lss (.t 17) (ci 0))])
 (.cond (.t 18) (.seq (rg [oo 4 (.mv (.c .nil))])
 .ret) .skip))
 (.seq (rg [oo 19 (.mv (.t 5)),
 oo 20 (.mv (.t 6)),
 oo 21 (.iaddr 5 (.t 19) (.t 20)),
 oo 4 (.mv (.t 21))])
 .ret)))))
structure G_f23 (E:Env):Prop where
 is:Is E 164 2 f23_ac [(4,none)]
 c_f9:G_f9 E
theorem f23_E {E:Env} (h:G_f23 E) (a0 a1:U):E 164 [a0,a1] =
 U.noTup a0 fun x1=>U.noTup a1 fun x2=>U.asAgg x1 fun us3=>if 0 = sizes (us3.take 0) then (us3[0]?).bind fun e4=>U.asVar false 1 e4 fun e5=>U.asAgg x2 fun us6=>if 0 = sizes (us6.take 0) then (us6[0]?).bind fun e7=>U.asVar false 1 e7 fun e8=>U.asInt e8 fun n9=>U.elemAt 1 e5 n9 fun e10=>U.asVar false 1 e10 fun e11=>U.asAgg x2 fun us12=>if 1 = sizes (us12.take 1) then (us12[1]?).bind fun e13=>U.asVar false 1 e13 fun e14=>(E 165 [e11,e14]).bind fun t15=>(U.bin .lss t15 (.int .i64 0)).bind fun t16=>U.asBool t16
 (some .nil)
 (U.asInt t15 fun n17=>U.elemAt 5 e11 n17 fun e18=>some (.vp e18)) else none else none else none:=(h.is _ rfl).trans ((Qa rfl).trans (by kernel_rfl))
def f26_ac:AC :=
 (.seq (rg [oo 2 (.box false 2 (.t 0)),
 oo 3 (.mv (.c (.bool false)))])
 (.seq (rg [oo 4 (.load true 1 (.t 1)),
 oo 5 (.load true 2 (.t 2)),
 oo 6 (.call false 164 [(.t 4),(.t 5)]),
 oo 7 (.eqv false 1 (.t 6) (.c .nil)),
 oo 3 (.mv (.t 7))])
 .ret))
structure G_f26 (E:Env):Prop where
 is:Is E 161 2 f26_ac [(3,none)]
 c_f23:G_f23 E
theorem f26_E {E:Env} (h:G_f26 E) (a0 a1:U):E 161 [a0,a1] =
 U.noTup a0 fun x1=>U.asVp a1 fun v2=>U.asVar true 1 v2 fun e3=>U.asVar true 2 x1 fun e4=>(E 164 [e3,e4]).bind fun t5=>(U.eqv 1 t5 .nil).bind fun q6=>some (.bool q6):=(h.is _ rfl).trans ((Qa rfl).trans (by kernel_rfl))
def f25_ac:AC :=
 (.seq (rg [oo 2 (.box true 2 (.t 0)),
 oo 4 (.mv (.c (.bool false)))])
 (.seq (rg [oo 5 (.mv (.t 1)),
 oo 6 (.mkfn 161 [(.t 2)]),
 oo 7 (.call false 162 [(.t 5),(.t 6)]),
 oo 8 (.un .not (.t 7)),
 oo 4 (.mv (.t 8))])
 .ret))
structure G_f25 (E:Env):Prop where
 is:Is E 158 2 f25_ac [(4,none)]
 c_f112:G_f112 E
 c_f26:G_f26 E
theorem f25_E {E:Env} (h:G_f25 E) (a0 a1:U):E 158 [a0,a1] =
 U.noTup a0 fun x1=>(E 162 [a1,(.fn 161 [(.vp x1)])]).bind fun t2=>U.asFlat t2 fun t3=>(U.un .not t3).bind fun t4=>some t4:=(h.is _ rfl).trans ((Qa rfl).trans (by kernel_rfl))
def f5_b0:AC :=
 (.seq (rg [oo 9 (.bin .lss (.t 8) (.t 7))])
 (.seq (.cond (.t 9) .skip (.exit 0))
 (.seq (.block 1 (.seq (rg [oo 10 (.mv (.t 8)),
 oo 11 (.iaddr 9 (.t 6) (.t 8)),
 oo 12 (.load true 9 (.t 11)),
 oo 4 (.alloc 4 (.agg [(.int .i64 0),(.int .i64 0),(.int .i64 0),(.int .i64 0),(.int .i64 0),(.int .i64 0),(.int .i64 0),(.nsl 2),(.nsl 2)])),
 oo 3 (.mv (.t 10)),
 ⟨none,.store 9 (.t 4) (.t 12),none⟩])
 (.seq (.seq (.region 33 [oo 13 (.load true 9 (.t 4)),
 oo 14 (.call false 159 [(.t 13)]),
 oo 15 (.un .not (.t 14)),
 oo 16 (.mv (.t 15)),
 ⟨some 17,.mv (.t 3),some (16,false)⟩,
 ⟨some 18,.bin .gtr (.t 17) (ci 0),some (16,false)⟩,
 ⟨some 19,.mv (.t 18),some (16,false)⟩,
 ⟨some 20,.faddr 2 2 (.t 1),some (19,true)⟩,
 ⟨some 21,.load false 1 (.t 20),some (19,true)⟩,
 ⟨some 22,.mv (.t 3),some (19,true)⟩,
 ⟨some 23,.bin .sub (.t 22) (ci 1),some (19,true)⟩,
 ⟨some 24,.iaddr 9 (.t 21) (.t 23),some (19,true)⟩,
 ⟨some 25,.faddr 0 0 (.t 24),some (19,true)⟩,
 ⟨some 26,.load false 1 (.t 25),some (19,true)⟩,
 ⟨some 27,.faddr 0 0 (.t 4),some (19,true)⟩,
 ⟨some 28,.load false 1 (.t 27),some (19,true)⟩,
 ⟨some 29,.bin .geq (.t 26) (.t 28),some (19,true)⟩,
 ⟨some 30,.pick (.t 19) (.t 29) (.c (.bool false)),some (16,false)⟩,
 oo 31 (.pick (.t 16) (.c (.bool true)) (.t 30)),
 oo 32 (.mv (.t 31)),
 ⟨some 33,.faddr 3 3 (.t 4),some (32,false)⟩,
 ⟨some 34,.load false 1 (.t 33),some (32,false)⟩,
 ⟨some 35,.faddr 5 5 (.t 1),some (32,false)⟩,
 ⟨some 36,.load false 1 (.t 35),some (32,false)⟩,
 ⟨some 37,.bin .gtr (.t 34) (.t 36),some (32,false)⟩,
 oo 38 (.pick (.t 32) (.c (.bool true)) (.t 37)),
 oo 39 (.mv (.t 38)),
 ⟨some 40,.faddr 6 6 (.t 4),some (39,false)⟩,
 ⟨some 41,.load false 1 (.t 40),some (39,false)⟩,
 ⟨some 42,.faddr 5 5 (.t 1),some (39,false)⟩,
 ⟨some 43,.load false 1 (.t 42),some (39,false)⟩,
 ⟨some 44,.bin .gtr (.t 41) (.t 43),some (39,false)⟩,
 oo 45 (.pick (.t 39) (.c (.bool true)) (.t 44))])
 (.cond (.t 45) (.seq (rg [oo 2 (.mv (.c (.bool false)))])
 .ret) .skip))
 (.seq (rg [oo 46 (.faddr 2 2 (.t 4)),
 oo 47 (.load false 1 (.t 46)),
 oo 48 (.bin .eql (.t 47) (ci 1)),
 oo 49 (.mv (.t 48)),
 ⟨some 50,.faddr 1 1 (.t 1),some (49,true)⟩,
 ⟨some 51,.load true 1 (.t 50),some (49,true)⟩,
 ⟨some 52,.faddr 7 7 (.t 4),some (49,true)⟩,
 ⟨some 53,.load false 1 (.t 52),some (49,true)⟩,
 ⟨some 54,.call false 158 [(.t 51),(.t 53)],some (49,true)⟩,
 ⟨some 55,.un .not (.t 54),some (49,true)⟩,
 oo 56 (.pick (.t 49) (.t 55) (.c (.bool false)))])
 (.cond (.t 56) (.seq (rg [oo 2 (.mv (.c (.bool false)))])
 .ret) .skip)))))
 (rg [oo 57 (.bin .add (.t 8) (ci 1)),
 oo 8 (.mv (.t 57))]))))
def f5_r0:AC :=
 (.seq (rg [oo 58 (.faddr 2 2 (.t 1)),
 oo 59 (.load false 1 (.t 58)),
 oo 60 (.len false (.t 59)),
 oo 61 (.bin .leq (.t 60) (ci 6)),
 oo 2 (.mv (.t 61))])
 .ret)
def f5_ac:AC :=
 (.seq (rg [oo 1 (.box false 1 (.t 0)),
 oo 2 (.mv (.c (.bool false)))])
 (.seq (.seq (rg [oo 5 (.faddr 2 2 (.t 1)),
 oo 6 (.load false 1 (.t 5)),
 oo 7 (.len false (.t 6)),
 oo 8 (.mv (ci 0))])
 (.block 0 (.loop ⟨[1,6,7,8],[],[(1,false)]⟩ f5_b0)))
 f5_r0))
noncomputable def f5_l0 (E:Env) (x6:U) (x7:U) (x8:U) (b1:U):Option U:=loopK (roundOf E ⟨[1,6,7,8],[],[(1,false)]⟩ f5_b0 (blockK 0 (seqK (fun s=>exec E f5_r0 s (finish [(2,none)])) (finish [(2,none)])))) ([.ptr 1 [],.val x6,.val x7,.val x8],[.box (.val b1)])
theorem Qmo (E:Env) (x6:U) (x7:U) (x8:U) (b1:U):f5_l0 E x6 x7 x8 b1 =
 (U.bin .lss x8 x7).bind fun t6=>U.asBool t6
 (U.asInt x8 fun n7=>U.elemAt 9 x6 n7 fun e8=>U.asVar true 9 e8 fun e9=>if storable (.val e9) = true ∧ e9.size = 9 then U.asVar true 9 e9 fun e10=>(E 159 [e10]).bind fun t11=>(U.un .not t11).bind fun t12=>U.asBool t12
 (some (.bool false))
 ((U.bin .gtr x8 (.int .i64 0)).bind fun t13=>U.asBool t13
 (U.asAgg b1 fun us14=>if 2 = sizes (us14.take 2) then (us14[2]?).bind fun e15=>U.asVar false 1 e15 fun e16=>(U.bin .sub x8 (.int .i64 1)).bind fun t17=>U.asInt t17 fun n18=>U.elemAt 9 e16 n18 fun e19=>U.fieldAt 0 0 e19 fun f20=>U.asVar false 1 f20 fun e21=>U.asAgg e9 fun us22=>if 0 = sizes (us22.take 0) then (us22[0]?).bind fun e23=>U.asVar false 1 e23 fun e24=>(U.bin .geq e21 e24).bind fun t25=>U.asBool t25
 (some (.bool false))
 (U.asAgg e9 fun us26=>if 3 = sizes (us26.take 3) then (us26[3]?).bind fun e27=>U.asVar false 1 e27 fun e28=>U.asAgg b1 fun us29=>if 5 = sizes (us29.take 5) then (us29[5]?).bind fun e30=>U.asVar false 1 e30 fun e31=>(U.bin .gtr e28 e31).bind fun t32=>U.asBool t32
 (some (.bool false))
 (U.asAgg e9 fun us33=>if 6 = sizes (us33.take 6) then (us33[6]?).bind fun e34=>U.asVar false 1 e34 fun e35=>U.asAgg b1 fun us36=>if 5 = sizes (us36.take 5) then (us36[5]?).bind fun e37=>U.asVar false 1 e37 fun e38=>(U.bin .gtr e35 e38).bind fun t39=>U.asBool t39
 (some (.bool false))
 (U.asAgg e9 fun us40=>if 2 = sizes (us40.take 2) then (us40[2]?).bind fun e41=>U.asVar false 1 e41 fun e42=>(U.bin .eql e42 (.int .i64 1)).bind fun t43=>U.asBool t43
 (U.asAgg b1 fun us44=>if 1 = sizes (us44.take 1) then (us44[1]?).bind fun e45=>U.asVar true 1 e45 fun e46=>U.asAgg e9 fun us47=>if 7 = sizes (us47.take 7) then (us47[7]?).bind fun e48=>U.asVar false 1 e48 fun e49=>(E 158 [e46,e49]).bind fun t50=>(U.un .not t50).bind fun t51=>U.asBool t51
 (some (.bool false))
 ((U.bin .add x8 (.int .i64 1)).bind fun t52=>f5_l0 E x6 x7 t52 b1) else none else none)
 ((U.bin .add x8 (.int .i64 1)).bind fun t53=>f5_l0 E x6 x7 t53 b1) else none) else none else none) else none else none) else none else none)
 (U.asAgg e9 fun us54=>if 3 = sizes (us54.take 3) then (us54[3]?).bind fun e55=>U.asVar false 1 e55 fun e56=>U.asAgg b1 fun us57=>if 5 = sizes (us57.take 5) then (us57[5]?).bind fun e58=>U.asVar false 1 e58 fun e59=>(U.bin .gtr e56 e59).bind fun t60=>U.asBool t60
 (some (.bool false))
 (U.asAgg e9 fun us61=>if 6 = sizes (us61.take 6) then (us61[6]?).bind fun e62=>U.asVar false 1 e62 fun e63=>U.asAgg b1 fun us64=>if 5 = sizes (us64.take 5) then (us64[5]?).bind fun e65=>U.asVar false 1 e65 fun e66=>(U.bin .gtr e63 e66).bind fun t67=>U.asBool t67
 (some (.bool false))
 (U.asAgg e9 fun us68=>if 2 = sizes (us68.take 2) then (us68[2]?).bind fun e69=>U.asVar false 1 e69 fun e70=>(U.bin .eql e70 (.int .i64 1)).bind fun t71=>U.asBool t71
 (U.asAgg b1 fun us72=>if 1 = sizes (us72.take 1) then (us72[1]?).bind fun e73=>U.asVar true 1 e73 fun e74=>U.asAgg e9 fun us75=>if 7 = sizes (us75.take 7) then (us75[7]?).bind fun e76=>U.asVar false 1 e76 fun e77=>(E 158 [e74,e77]).bind fun t78=>(U.un .not t78).bind fun t79=>U.asBool t79
 (some (.bool false))
 ((U.bin .add x8 (.int .i64 1)).bind fun t80=>f5_l0 E x6 x7 t80 b1) else none else none)
 ((U.bin .add x8 (.int .i64 1)).bind fun t81=>f5_l0 E x6 x7 t81 b1) else none) else none else none) else none else none)) else none)
 (U.asAgg b1 fun us82=>if 2 = sizes (us82.take 2) then (us82[2]?).bind fun e83=>U.asVar false 1 e83 fun e84=>(U.lenOf false e84).bind fun n85=>(U.bin .leq (.int .i64 (n85:Int)) (.int .i64 6)).bind fun t86=>some t86 else none):=(Qf E _ _ _ _).trans (by kernel_rfl)
structure G_f5 (E:Env):Prop where
 is:Is E 153 1 f5_ac [(2,none)]
 c_f21:G_f21 E
 c_f25:G_f25 E
theorem f5_E {E:Env} (h:G_f5 E) (a0:U):E 153 [a0] =
 U.noTup a0 fun x1=>U.asAgg x1 fun us2=>if 2 = sizes (us2.take 2) then (us2[2]?).bind fun e3=>U.asVar false 1 e3 fun e4=>(U.lenOf false e4).bind fun n5=>f5_l0 E e4 (.int .i64 (n5:Int)) (.int .i64 0) x1 else none:=(h.is _ rfl).trans ((Qa rfl).trans (by kernel_rfl))
def f116_b0:AC :=
 (.seq (rg [oo 9 (.bin .lss (.t 8) (.t 7))])
 (.seq (.cond (.t 9) .skip (.exit 0))
 (.seq (.block 1 (.seq (rg [oo 10 (.mv (.t 8)),
 oo 5 (.mv (.t 10))])
 (.seq (rg [oo 11 (.mv (.t 1)),
 oo 12 (.mv (.t 0)),
 oo 13 (.mv (.t 5)),
 oo 14 (.iaddr 2 (.t 12) (.t 13)),
 oo 15 (.load true 2 (.t 14)),
 oo 16 (.callv false (.t 11) [(.t 15)])])
 (.cond (.t 16) (.seq (rg [oo 17 (.mv (.t 5)),
 oo 4 (.mv (.t 17))])
 .ret) .skip))))
 (rg [oo 18 (.bin .add (.t 8) (ci 1)),
 oo 8 (.mv (.t 18))]))))
def f116_r0:AC :=
 (.seq (rg [oo 4 (.mv (ci (-1)))])
 .ret)
def f116_ac:AC :=
 (.seq (rg [oo 4 (.mv (ci 0))])
 (.seq (.seq (rg [oo 6 (.mv (.t 0)),
 oo 7 (.len false (.t 6)),
 oo 8 (.mv (ci 0))])
 (.block 0 (.loop ⟨[0,1,7,8],[],[]⟩ f116_b0)))
 f116_r0))
noncomputable def f116_l0 (E:Env) (x0:U) (x1:U) (x7:U) (x8:U):Option U:=loopK (roundOf E ⟨[0,1,7,8],[],[]⟩ f116_b0 (blockK 0 (seqK (fun s=>exec E f116_r0 s (finish [(4,none)])) (finish [(4,none)])))) ([.val x0,.val x1,.val x7,.val x8],[])
theorem Qkc (E:Env) (x0:U) (x1:U) (x7:U) (x8:U):f116_l0 E x0 x1 x7 x8 =
 (U.bin .lss x8 x7).bind fun t2=>U.asBool t2
 (U.asInt x8 fun n3=>U.elemAt 2 x0 n3 fun e4=>U.asVar true 2 e4 fun e5=>U.asFn x1 fun r6 caps7=>(E r6 ([e5] ++ caps7)).bind fun t8=>U.asBool t8
 (some x8)
 ((U.bin .add x8 (.int .i64 1)).bind fun t9=>f116_l0 E x0 x1 x7 t9))
 (some (.int .i64 (-1))):=(Qf E _ _ _ _).trans (by kernel_rfl)
structure G_f116 (E:Env):Prop where
 is:Is E 168 2 f116_ac [(4,none)]
theorem Quq {E:Env} (h:G_f116 E) (a0 a1:U):E 168 [a0,a1] =
 (U.lenOf false a0).bind fun n1=>f116_l0 E a0 a1 (.int .i64 (n1:Int)) (.int .i64 0):=(h.is _ rfl).trans ((Qa rfl).trans (by kernel_rfl))
def f110_ac:AC :=
 (.seq (rg [oo 4 (.mv (.c (.bool false)))])
 (.seq (rg [oo 5 (.mv (.t 0)),
 oo 6 (.mv (.t 1)),
 oo 7 (.call false 168 [(.t 5),(.t 6)]),
 oo 8 (.bin .geq (.t 7) (ci 0)),
 oo 4 (.mv (.t 8))])
 .ret))
structure G_f110 (E:Env):Prop where
 is:Is E 155 2 f110_ac [(4,none)]
 c_f116:G_f116 E
theorem Qt8 {E:Env} (h:G_f110 E) (a0 a1:U):E 155 [a0,a1] =
 (E 168 [a0,a1]).bind fun t1=>(U.bin .geq t1 (.int .i64 0)).bind fun t2=>some t2:=(h.is _ rfl).trans ((Qa rfl).trans (by kernel_rfl))
def f117_b0:AC :=
 (.seq (rg [oo 9 (.bin .lss (.t 8) (.t 7))])
 (.seq (.cond (.t 9) .skip (.exit 0))
 (.seq (.block 1 (.seq (rg [oo 10 (.mv (.t 8)),
 oo 5 (.mv (.t 10))])
 (.seq (rg [oo 11 (.mv (.t 1)),
 oo 12 (.mv (.t 0)),
 oo 13 (.mv (.t 5)),
 oo 14 (.iaddr 9 (.t 12) (.t 13)),
 oo 15 (.load true 9 (.t 14)),
 oo 16 (.callv false (.t 11) [(.t 15)])])
 (.cond (.t 16) (.seq (rg [oo 17 (.mv (.t 5)),
 oo 4 (.mv (.t 17))])
 .ret) .skip))))
 (rg [oo 18 (.bin .add (.t 8) (ci 1)),
 oo 8 (.mv (.t 18))]))))
def f117_r0:AC :=
 (.seq (rg [oo 4 (.mv (ci (-1)))])
 .ret)
def f117_ac:AC :=
 (.seq (rg [oo 4 (.mv (ci 0))])
 (.seq (.seq (rg [oo 6 (.mv (.t 0)),
 oo 7 (.len false (.t 6)),
 oo 8 (.mv (ci 0))])
 (.block 0 (.loop ⟨[0,1,7,8],[],[]⟩ f117_b0)))
 f117_r0))
noncomputable def f117_l0 (E:Env) (x0:U) (x1:U) (x7:U) (x8:U):Option U:=loopK (roundOf E ⟨[0,1,7,8],[],[]⟩ f117_b0 (blockK 0 (seqK (fun s=>exec E f117_r0 s (finish [(4,none)])) (finish [(4,none)])))) ([.val x0,.val x1,.val x7,.val x8],[])
theorem Qke (E:Env) (x0:U) (x1:U) (x7:U) (x8:U):f117_l0 E x0 x1 x7 x8 =
 (U.bin .lss x8 x7).bind fun t2=>U.asBool t2
 (U.asInt x8 fun n3=>U.elemAt 9 x0 n3 fun e4=>U.asVar true 9 e4 fun e5=>U.asFn x1 fun r6 caps7=>(E r6 ([e5] ++ caps7)).bind fun t8=>U.asBool t8
 (some x8)
 ((U.bin .add x8 (.int .i64 1)).bind fun t9=>f117_l0 E x0 x1 x7 t9))
 (some (.int .i64 (-1))):=(Qf E _ _ _ _).trans (by kernel_rfl)
structure G_f117 (E:Env):Prop where
 is:Is E 172 2 f117_ac [(4,none)]
theorem Qut {E:Env} (h:G_f117 E) (a0 a1:U):E 172 [a0,a1] =
 (U.lenOf false a0).bind fun n1=>f117_l0 E a0 a1 (.int .i64 (n1:Int)) (.int .i64 0):=(h.is _ rfl).trans ((Qa rfl).trans (by kernel_rfl))
def f8_ac:AC :=
 (.seq (rg [oo 2 (.box false 2 (.t 0)),
 oo 3 (.mv (.c (.bool false)))])
 (.seq (rg [oo 4 (.faddr 0 0 (.t 2)),
 oo 5 (.load false 1 (.t 4)),
 oo 6 (.load false 1 (.t 1)),
 oo 7 (.bin .eql (.t 5) (.t 6)),
 oo 3 (.mv (.t 7))])
 .ret))
structure G_f8 (E:Env):Prop where
 is:Is E 171 2 f8_ac [(3,none)]
theorem f8_E {E:Env} (h:G_f8 E) (a0 a1:U):E 171 [a0,a1] =
 U.noTup a0 fun x1=>U.asAgg x1 fun us2=>if 0 = sizes (us2.take 0) then (us2[0]?).bind fun e3=>U.asVar false 1 e3 fun e4=>U.asVp a1 fun v5=>U.asVar false 1 v5 fun e6=>(U.bin .eql e4 e6).bind fun t7=>some t7 else none:=(h.is _ rfl).trans ((Qa rfl).trans (by kernel_rfl))
def f7_ac:AC :=
 (.seq (rg [oo 2 (.box false 2 (.t 0)),
 oo 3 (.box true 3 (.t 1)),
 oo 4 (.mv (ci 0))])
 (.seq (rg [oo 5 (.faddr 2 2 (.t 2)),
 oo 6 (.load false 1 (.t 5)),
 oo 7 (.mkfn 171 [(.t 3)]),
 oo 8 (.call false 172 [(.t 6),(.t 7)]),
 oo 4 (.mv (.t 8))])
 .ret))
structure G_f7 (E:Env):Prop where
 is:Is E 170 2 f7_ac [(4,none)]
 c_f117:G_f117 E
 c_f8:G_f8 E
theorem f7_E {E:Env} (h:G_f7 E) (a0 a1:U):E 170 [a0,a1] =
 U.noTup a0 fun x1=>U.noTup a1 fun x2=>U.asAgg x1 fun us3=>if 2 = sizes (us3.take 2) then (us3[2]?).bind fun e4=>U.asVar false 1 e4 fun e5=>(E 172 [e5,(.fn 171 [(.vp x2)])]).bind fun t6=>U.asFlat t6 fun t7=>some t7 else none:=(h.is _ rfl).trans ((Qa rfl).trans (by kernel_rfl))
def f6_ac:AC :=
 (.seq (rg [oo 2 (.box false 2 (.t 0)),
 oo 4 (.mv (.c (.bool false)))])
 (.seq (rg [oo 6 (.load true 6 (.t 2)),
 oo 7 (.mv (.t 1)),
 oo 8 (.call false 170 [(.t 6),(.t 7)]),
 oo 5 (.mv (.t 8))])
 (.seq (rg [oo 9 (.mv (.t 5)),
 oo 10 (.bin .geq (.t 9) (ci 0)),
 oo 11 (.mv (.t 10)),
 ⟨some 12,.faddr 2 2 (.t 2),some (11,true)⟩,
 ⟨some 13,.load false 1 (.t 12),some (11,true)⟩,
 ⟨some 14,.mv (.t 5),some (11,true)⟩,
 ⟨some 15,.iaddr 9 (.t 13) (.t 14),some (11,true)⟩,
 ⟨some 16,.faddr 2 2 (.t 15),some (11,true)⟩,
 ⟨some 17,.load false 1 (.t 16),some (11,true)⟩,
 ⟨some 18,.bin .eql (.t 17) (ci 1),some (11,true)⟩,
 oo 19 (.pick (.t 11) (.t 18) (.c (.bool false))),
 oo 4 (.mv (.t 19))])
 .ret)))
structure G_f6 (E:Env):Prop where
 is:Is E 169 2 f6_ac [(4,none)]
 c_f7:G_f7 E
theorem f6_E {E:Env} (h:G_f6 E) (a0 a1:U):E 169 [a0,a1] =
 U.noTup a0 fun x1=>U.asVar true 6 x1 fun e2=>(E 170 [e2,a1]).bind fun t3=>(U.bin .geq t3 (.int .i64 0)).bind fun t4=>U.asBool t4
 (U.asAgg x1 fun us5=>if 2 = sizes (us5.take 2) then (us5[2]?).bind fun e6=>U.asVar false 1 e6 fun e7=>U.asInt t3 fun n8=>U.elemAt 9 e7 n8 fun e9=>U.fieldAt 2 2 e9 fun f10=>U.asVar false 1 f10 fun e11=>(U.bin .eql e11 (.int .i64 1)).bind fun t12=>some t12 else none)
 (some (.bool false)):=(h.is _ rfl).trans ((Qa rfl).trans (by kernel_rfl))
def f17_ac:AC :=
 (.seq (rg [oo 2 (.box false 2 (.t 0)),
 oo 3 (.mv (.c (.bool false)))])
 (.seq (rg [oo 4 (.load true 6 (.t 1)),
 oo 5 (.faddr 1 1 (.t 2)),
 oo 6 (.load false 1 (.t 5)),
 oo 7 (.call false 169 [(.t 4),(.t 6)]),
 oo 8 (.un .not (.t 7)),
 oo 3 (.mv (.t 8))])
 .ret))
structure G_f17 (E:Env):Prop where
 is:Is E 154 2 f17_ac [(3,none)]
 c_f6:G_f6 E
theorem f17_E {E:Env} (h:G_f17 E) (a0 a1:U):E 154 [a0,a1] =
 U.noTup a0 fun x1=>U.asVp a1 fun v2=>U.asVar true 6 v2 fun e3=>U.asAgg x1 fun us4=>if 1 = sizes (us4.take 1) then (us4[1]?).bind fun e5=>U.asVar false 1 e5 fun e6=>(E 169 [e3,e6]).bind fun t7=>(U.un .not t7).bind fun t8=>some t8 else none:=(h.is _ rfl).trans ((Qa rfl).trans (by kernel_rfl))
def f118_b0:AC :=
 (.seq (rg [oo 9 (.bin .lss (.t 8) (.t 7))])
 (.seq (.cond (.t 9) .skip (.exit 0))
 (.seq (.block 1 (.seq (rg [oo 10 (.mv (.t 8)),
 oo 5 (.mv (.t 10))])
 (.seq (rg [oo 11 (.mv (.t 1)),
 oo 12 (.mv (.t 0)),
 oo 13 (.mv (.t 5)),
 oo 14 (.iaddr 2 (.t 12) (.t 13)),
 oo 15 (.load true 2 (.t 14)),
 oo 16 (.callv false (.t 11) [(.t 15)])])
 (.cond (.t 16) (.seq (rg [oo 17 (.mv (.t 5)),
 oo 4 (.mv (.t 17))])
 .ret) .skip))))
 (rg [oo 18 (.bin .add (.t 8) (ci 1)),
 oo 8 (.mv (.t 18))]))))
def f118_r0:AC :=
 (.seq (rg [oo 4 (.mv (ci (-1)))])
 .ret)
def f118_ac:AC :=
 (.seq (rg [oo 4 (.mv (ci 0))])
 (.seq (.seq (rg [oo 6 (.mv (.t 0)),
 oo 7 (.len false (.t 6)),
 oo 8 (.mv (ci 0))])
 (.block 0 (.loop ⟨[0,1,7,8],[],[]⟩ f118_b0)))
 f118_r0))
noncomputable def f118_l0 (E:Env) (x0:U) (x1:U) (x7:U) (x8:U):Option U:=loopK (roundOf E ⟨[0,1,7,8],[],[]⟩ f118_b0 (blockK 0 (seqK (fun s=>exec E f118_r0 s (finish [(4,none)])) (finish [(4,none)])))) ([.val x0,.val x1,.val x7,.val x8],[])
theorem Qkg (E:Env) (x0:U) (x1:U) (x7:U) (x8:U):f118_l0 E x0 x1 x7 x8 =
 (U.bin .lss x8 x7).bind fun t2=>U.asBool t2
 (U.asInt x8 fun n3=>U.elemAt 2 x0 n3 fun e4=>U.asVar true 2 e4 fun e5=>U.asFn x1 fun r6 caps7=>(E r6 ([e5] ++ caps7)).bind fun t8=>U.asBool t8
 (some x8)
 ((U.bin .add x8 (.int .i64 1)).bind fun t9=>f118_l0 E x0 x1 x7 t9))
 (some (.int .i64 (-1))):=(Qf E _ _ _ _).trans (by kernel_rfl)
structure G_f118 (E:Env):Prop where
 is:Is E 173 2 f118_ac [(4,none)]
theorem Quw {E:Env} (h:G_f118 E) (a0 a1:U):E 173 [a0,a1] =
 (U.lenOf false a0).bind fun n1=>f118_l0 E a0 a1 (.int .i64 (n1:Int)) (.int .i64 0):=(h.is _ rfl).trans ((Qa rfl).trans (by kernel_rfl))
def f111_ac:AC :=
 (.seq (rg [oo 4 (.mv (.c (.bool false)))])
 (.seq (rg [oo 5 (.mv (.t 0)),
 oo 6 (.mv (.t 1)),
 oo 7 (.call false 173 [(.t 5),(.t 6)]),
 oo 8 (.bin .geq (.t 7) (ci 0)),
 oo 4 (.mv (.t 8))])
 .ret))
structure G_f111 (E:Env):Prop where
 is:Is E 157 2 f111_ac [(4,none)]
 c_f118:G_f118 E
theorem Qub {E:Env} (h:G_f111 E) (a0 a1:U):E 157 [a0,a1] =
 (E 173 [a0,a1]).bind fun t1=>(U.bin .geq t1 (.int .i64 0)).bind fun t2=>some t2:=(h.is _ rfl).trans ((Qa rfl).trans (by kernel_rfl))
def f18_ac:AC :=
 (.seq (rg [oo 2 (.box false 2 (.t 0)),
 oo 3 (.mv (.c (.bool false)))])
 (.seq (rg [oo 4 (.load true 6 (.t 1)),
 oo 5 (.faddr 0 0 (.t 2)),
 oo 6 (.load false 1 (.t 5)),
 oo 7 (.call false 169 [(.t 4),(.t 6)]),
 oo 8 (.un .not (.t 7)),
 oo 9 (.mv (.t 8)),
 ⟨some 10,.load true 6 (.t 1),some (9,false)⟩,
 ⟨some 11,.faddr 1 1 (.t 2),some (9,false)⟩,
 ⟨some 12,.load false 1 (.t 11),some (9,false)⟩,
 ⟨some 13,.call false 169 [(.t 10),(.t 12)],some (9,false)⟩,
 ⟨some 14,.un .not (.t 13),some (9,false)⟩,
 oo 15 (.pick (.t 9) (.c (.bool true)) (.t 14)),
 oo 3 (.mv (.t 15))])
 .ret))
structure G_f18 (E:Env):Prop where
 is:Is E 156 2 f18_ac [(3,none)]
 c_f6:G_f6 E
theorem f18_E {E:Env} (h:G_f18 E) (a0 a1:U):E 156 [a0,a1] =
 U.noTup a0 fun x1=>U.asVp a1 fun v2=>U.asVar true 6 v2 fun e3=>U.asAgg x1 fun us4=>if 0 = sizes (us4.take 0) then (us4[0]?).bind fun e5=>U.asVar false 1 e5 fun e6=>(E 169 [e3,e6]).bind fun t7=>(U.un .not t7).bind fun t8=>U.asBool t8
 (some (.bool true))
 (U.asVp a1 fun v9=>U.asVar true 6 v9 fun e10=>U.asAgg x1 fun us11=>if 1 = sizes (us11.take 1) then (us11[1]?).bind fun e12=>U.asVar false 1 e12 fun e13=>(E 169 [e10,e13]).bind fun t14=>(U.un .not t14).bind fun t15=>some t15 else none) else none:=(h.is _ rfl).trans ((Qa rfl).trans (by kernel_rfl))
def f16_ac:AC :=
 (.seq (rg [oo 1 (.box false 1 (.t 0)),
 oo 2 (.mv (.c (.bool false)))])
 (.seq (.region 40 [oo 3 (.faddr 1 1 (.t 1)),
 oo 4 (.load true 1 (.t 3)),
 oo 5 (.call false 112 [(.t 4)]),
 oo 6 (.mv (.t 5)),
 ⟨some 7,.faddr 3 3 (.t 1),some (6,true)⟩,
 ⟨some 8,.load false 1 (.t 7),some (6,true)⟩,
 ⟨some 9,.call false 150 [(.t 8)],some (6,true)⟩,
 oo 10 (.pick (.t 6) (.t 9) (.c (.bool false))),
 oo 11 (.mv (.t 10)),
 ⟨some 12,.faddr 4 4 (.t 1),some (11,true)⟩,
 ⟨some 13,.load false 1 (.t 12),some (11,true)⟩,
 ⟨some 14,.call false 151 [(.t 13)],some (11,true)⟩,
 oo 15 (.pick (.t 11) (.t 14) (.c (.bool false))),
 oo 16 (.mv (.t 15)),
 ⟨some 17,.faddr 5 5 (.t 1),some (16,true)⟩,
 ⟨some 18,.load false 1 (.t 17),some (16,true)⟩,
 ⟨some 19,.faddr 1 1 (.t 1),some (16,true)⟩,
 ⟨some 20,.load true 1 (.t 19),some (16,true)⟩,
 ⟨some 21,.call false 152 [(.t 20)],some (16,true)⟩,
 ⟨some 22,.call false 10 [(.t 18),(.t 21),(ci 999)],some (16,true)⟩,
 oo 23 (.pick (.t 16) (.t 22) (.c (.bool false))),
 oo 24 (.mv (.t 23)),
 ⟨some 25,.load true 6 (.t 1),some (24,true)⟩,
 ⟨some 26,.call false 153 [(.t 25)],some (24,true)⟩,
 oo 27 (.pick (.t 24) (.t 26) (.c (.bool false))),
 oo 28 (.mv (.t 27)),
 ⟨some 29,.faddr 3 3 (.t 1),some (28,true)⟩,
 ⟨some 30,.load false 1 (.t 29),some (28,true)⟩,
 ⟨some 31,.mkfn 154 [(.t 1)],some (28,true)⟩,
 ⟨some 32,.call false 155 [(.t 30),(.t 31)],some (28,true)⟩,
 ⟨some 33,.un .not (.t 32),some (28,true)⟩,
 oo 34 (.pick (.t 28) (.t 33) (.c (.bool false))),
 oo 35 (.mv (.t 34)),
 ⟨some 36,.faddr 4 4 (.t 1),some (35,true)⟩,
 ⟨some 37,.load false 1 (.t 36),some (35,true)⟩,
 ⟨some 38,.mkfn 156 [(.t 1)],some (35,true)⟩,
 ⟨some 39,.call false 157 [(.t 37),(.t 38)],some (35,true)⟩,
 ⟨some 40,.un .not (.t 39),some (35,true)⟩,
 oo 41 (.pick (.t 35) (.t 40) (.c (.bool false))),
 oo 2 (.mv (.t 41))])
 .ret))
structure G_f16 (E:Env):Prop where
 is:Is E 148 1 f16_ac [(2,none)]
 c_f19:G_f19 E
 c_f3:G_f3 E
 c_f4:G_f4 E
 c_f32:G_f32 E
 c_f24:G_f24 E
 c_f5:G_f5 E
 c_f110:G_f110 E
 c_f17:G_f17 E
 c_f111:G_f111 E
 c_f18:G_f18 E
theorem f16_E {E:Env} (h:G_f16 E) (a0:U):E 148 [a0] =
 U.noTup a0 fun x1=>U.asAgg x1 fun us2=>if 1 = sizes (us2.take 1) then (us2[1]?).bind fun e3=>U.asVar true 1 e3 fun e4=>(E 112 [e4]).bind fun t5=>U.asBool t5
 (U.asAgg x1 fun us6=>if 3 = sizes (us6.take 3) then (us6[3]?).bind fun e7=>U.asVar false 1 e7 fun e8=>(E 150 [e8]).bind fun t9=>U.asBool t9
 (U.asAgg x1 fun us10=>if 4 = sizes (us10.take 4) then (us10[4]?).bind fun e11=>U.asVar false 1 e11 fun e12=>(E 151 [e12]).bind fun t13=>U.asBool t13
 (U.asAgg x1 fun us14=>if 5 = sizes (us14.take 5) then (us14[5]?).bind fun e15=>U.asVar false 1 e15 fun e16=>U.asAgg x1 fun us17=>if 1 = sizes (us17.take 1) then (us17[1]?).bind fun e18=>U.asVar true 1 e18 fun e19=>(E 152 [e19]).bind fun t20=>(E 10 [e16,t20,(.int .i64 999)]).bind fun t21=>U.asBool t21
 (U.asVar true 6 x1 fun e22=>(E 153 [e22]).bind fun t23=>U.asBool t23
 (U.asAgg x1 fun us24=>if 3 = sizes (us24.take 3) then (us24[3]?).bind fun e25=>U.asVar false 1 e25 fun e26=>(E 155 [e26,(.fn 154 [(.vp x1)])]).bind fun t27=>U.asFlat t27 fun t28=>(U.un .not t28).bind fun t29=>U.asBool t29
 (U.asAgg x1 fun us30=>if 4 = sizes (us30.take 4) then (us30[4]?).bind fun e31=>U.asVar false 1 e31 fun e32=>(E 157 [e32,(.fn 156 [(.vp x1)])]).bind fun t33=>U.asFlat t33 fun t34=>(U.un .not t34).bind fun t35=>some t35 else none)
 (some (.bool false)) else none)
 (some (.bool false)))
 (some (.bool false)) else none else none)
 (some (.bool false)) else none)
 (some (.bool false)) else none)
 (some (.bool false)) else none:=(h.is _ rfl).trans ((Qa rfl).trans (by kernel_rfl))
def f12_ac:AC :=
 (.seq (rg [oo 2 (.box false 2 (.t 0)),
 oo 3 (.box false 3 (.t 1)),
 oo 4 (.mv (ci 0))])
 (.seq (rg [oo 5 (.faddr 1 1 (.t 2)),
 oo 6 (.load false 1 (.t 5)),
 oo 7 (.faddr 1 1 (.t 3)),
 oo 8 (.load false 1 (.t 7)),
 oo 9 (.call false 13 [(.t 6),(.t 8)]),
 oo 4 (.mv (.t 9))])
 .ret))
structure G_f12 (E:Env):Prop where
 is:Is E 471 2 f12_ac [(4,none)]
 c_f0:G_f0 E
theorem f12_E {E:Env} (h:G_f12 E) (a0 a1:U):E 471 [a0,a1] =
 U.noTup a0 fun x1=>U.noTup a1 fun x2=>U.asAgg x1 fun us3=>if 1 = sizes (us3.take 1) then (us3[1]?).bind fun e4=>U.asVar false 1 e4 fun e5=>U.asAgg x2 fun us6=>if 1 = sizes (us6.take 1) then (us6[1]?).bind fun e7=>U.asVar false 1 e7 fun e8=>(E 13 [e5,e8]).bind fun t9=>some t9 else none else none:=(h.is _ rfl).trans ((Qa rfl).trans (by kernel_rfl))
def f107_ac:AC :=
 (.seq (rg [oo 2 (.mv (.c (.nsl 2)))])
 (.seq (.seq (rg [oo 3 (.mv (.t 0)),
 oo 4 (.eqnil false (.t 3))])
 (.cond (.t 4) (.seq (rg [oo 2 (.mv (.c (.nsl 2)))])
 .ret) .skip))
 (.seq (rg [oo 5 (.bslice 1 5 2 0 (.agg [(.int .i64 0),(.int .i64 0)]) []),
 oo 6 (.mv (.t 0)),
 oo 7 (.append false 7 2 16 (.t 5) (.t 6)),
 oo 2 (.mv (.t 7))])
 .ret)))
theorem Qtu (E:Env) (a0:U):run E f107_ac [(2,none)] [a0] =
 (U.isNil a0).bind fun q1=>U.asBool (.bool q1)
 (some (.nsl 2))
 ((U.elems 2 a0).bind fun ys2=>if 2 = 2 ∧ 2 = 2 ∧ ((([]:List U)).length + (ys2:List U).length) * 16 ≤ 140737488355328 then some (.sl 2 (([]:List U) ++ ys2)) else none):=by kernel_rfl
theorem Qtt (E:Env) (a0:U):exec E f107_ac (start [a0]) (finishF [(2,none)]) =
 (U.isNil a0).bind fun q1=>U.asBool (.bool q1)
 (some (.sl 2 []))
 ((U.elems 2 a0).bind fun ys2=>if 2 = 2 ∧ 2 = 2 ∧ ((([]:List U)).length + (ys2:List U).length) * 16 ≤ 140737488355328 then if U.flat.flats (([]:List U) ++ ys2) = true then some (.sl 2 (([]:List U) ++ ys2)) else none else none):=by kernel_rfl
theorem Qtx:CloneOK f107_ac 2 16 where
 v:=fun E u us h=>by
  rw [Qtu]
  simp [U.isNil,U.elems,h]
 f:=fun E u us h hf=>by
  rw [Qtt]
  simp [U.isNil,U.elems,h,hf]
 vn:=fun E=>by kernel_rfl
 fn:=fun E=>by kernel_rfl
 vt:=fun E=>by kernel_rfl
 vf:=fun E=>by kernel_rfl
 ft:=fun E=>by kernel_rfl
 ff:=fun E=>by kernel_rfl
def f108_ac:AC :=
 (.seq (rg [oo 2 (.mv (.c (.nsl 2)))])
 (.seq (.seq (rg [oo 3 (.mv (.t 0)),
 oo 4 (.eqnil false (.t 3))])
 (.cond (.t 4) (.seq (rg [oo 2 (.mv (.c (.nsl 2)))])
 .ret) .skip))
 (.seq (rg [oo 5 (.bslice 1 5 2 0 (.agg [(.int .i64 0),(.int .i64 0)]) []),
 oo 6 (.mv (.t 0)),
 oo 7 (.append false 7 2 16 (.t 5) (.t 6)),
 oo 2 (.mv (.t 7))])
 .ret)))
theorem Qtz (E:Env) (a0:U):run E f108_ac [(2,none)] [a0] =
 (U.isNil a0).bind fun q1=>U.asBool (.bool q1)
 (some (.nsl 2))
 ((U.elems 2 a0).bind fun ys2=>if 2 = 2 ∧ 2 = 2 ∧ ((([]:List U)).length + (ys2:List U).length) * 16 ≤ 140737488355328 then some (.sl 2 (([]:List U) ++ ys2)) else none):=by kernel_rfl
theorem Qty (E:Env) (a0:U):exec E f108_ac (start [a0]) (finishF [(2,none)]) =
 (U.isNil a0).bind fun q1=>U.asBool (.bool q1)
 (some (.sl 2 []))
 ((U.elems 2 a0).bind fun ys2=>if 2 = 2 ∧ 2 = 2 ∧ ((([]:List U)).length + (ys2:List U).length) * 16 ≤ 140737488355328 then if U.flat.flats (([]:List U) ++ ys2) = true then some (.sl 2 (([]:List U) ++ ys2)) else none else none):=by kernel_rfl
theorem Qt2:CloneOK f108_ac 2 16 where
 v:=fun E u us h=>by
  rw [Qtz]
  simp [U.isNil,U.elems,h]
 f:=fun E u us h hf=>by
  rw [Qty]
  simp [U.isNil,U.elems,h,hf]
 vn:=fun E=>by kernel_rfl
 fn:=fun E=>by kernel_rfl
 vt:=fun E=>by kernel_rfl
 vf:=fun E=>by kernel_rfl
 ft:=fun E=>by kernel_rfl
 ff:=fun E=>by kernel_rfl
def f28_ac:AC :=
 (.seq (rg [oo 1 (.boxN 9 1 (.t 0)),
 oo 2 (.alloc 2 (.agg [(.int .i64 0),(.int .i64 0),(.int .i64 0),(.int .i64 0),(.int .i64 0),(.int .i64 0),(.int .i64 0),(.nsl 2),(.nsl 2)]))])
 (.seq (.regN 7 [5,8] [(0,5),(1,5),(3,5),(4,5),(0,8),(1,8),(2,8),(3,8),(4,8),(6,8)] [(.t 3),(.t 6)] [oo 3 (.faddr 7 7 (.t 1)),
 oo 4 (.load false 1 (.t 3)),
 oo 5 (.callF 5 false [(.sl 2)] 224 [(.t 4)]),
 oo 6 (.faddr 8 8 (.t 1)),
 oo 7 (.load false 1 (.t 6)),
 oo 8 (.callF 8 false [(.sl 2)] 225 [(.t 7)]),
 oo 9 (.faddr 7 7 (.t 1)),
 ⟨none,.storeM 3000 1 (.t 9) (.t 5),none⟩,
 oo 10 (.faddr 8 8 (.t 1)),
 ⟨none,.storeM 3002 1 (.t 10) (.t 8),none⟩])
 (.seq (rg [oo 11 (.loadO (.agg [.int,.int,.int,.int,.int,.int,.int,(.sl 2),(.sl 2)]) (.t 1)),
 ⟨none,.storeM 3001 9 (.t 2) (.t 11),none⟩])
 .ret)))
structure G_f28 (E:Env):Prop where
 is:Is E 100222 1 f28_ac [(2,some (true,9))]
 c_f107:IsClone E 224 2 16
 c_f108:IsClone E 225 2 16
theorem f28_E {E:Env} (h:G_f28 E) (a0:U):E 100222 [a0] =
 U.asAgg a0 fun us1=>(match us1 with
 | u2 :: us3=>((match us3 with
 | u4 :: us5=>((match us5 with
 | u6 :: us7=>((match us7 with
 | u8 :: us9=>((match us9 with
 | u10 :: us11=>((match us11 with
 | u12 :: us13=>((match us13 with
 | u14 :: us15=>((match us15 with
 | u16 :: us17=>((match us17 with
 | u18 :: us19=>((match us19 with
 | []=>(if 7 = sizes [u2,u4,u6,u8,u10,u12,u14] then U.asVar false 1 u16 fun e20=>(E 100224 [e20]).bind fun t21=>U.noTup t21 fun x22=>U.asSlK 2 x22 fun us23=>if 8 = sizes [u2,u4,u6,u8,u10,u12,u14,u16] then U.asVar false 1 u18 fun e24=>(E 100225 [e24]).bind fun t25=>U.noTup t25 fun x26=>U.asSlK 2 x26 fun us27=>if 7 = sizes [u2,u4,u6,u8,u10,u12,u14] then if 7 = sizes [u2,u4,u6,u8,u10,u12,u14] then if u16.size = u16.size then if 7 = dsizes [.val u2,.val u4,.val u6,.val u8,.val u10,.val u12,.val u14] then if u16.size = 1 then if 8 = dsizes [.val u2,.val u4,.val u6,.val u8,.val u10,.val u12,.val u14,.own (.sl 2 us23)] then if 8 = dsizes [.val u2,.val u4,.val u6,.val u8,.val u10,.val u12,.val u14,.own (.sl 2 us23)] then if u18.size = u18.size then if 8 = dsizes [.val u2,.val u4,.val u6,.val u8,.val u10,.val u12,.val u14,.own (.sl 2 us23)] then if u18.size = 1 then U.asInt u2 fun n28=>U.asInt u4 fun n29=>U.asInt u6 fun n30=>U.asInt u8 fun n31=>U.asInt u10 fun n32=>U.asInt u12 fun n33=>U.asInt u14 fun n34=>if 7 = dsizes [.val u2,.val u4,.val u6,.val u8,.val u10,.val u12,.val u14] then if 7 = dsizes [.val u2,.val u4,.val u6,.val u8,.val u10,.val u12,.val u14] then if 8 = dsizes [.val u2,.val u4,.val u6,.val u8,.val u10,.val u12,.val u14,.junk 1] then if 8 = dsizes [.val u2,.val u4,.val u6,.val u8,.val u10,.val u12,.val u14,.junk 1] then some (.agg [(.int .i64 n28),(.int .i64 n29),(.int .i64 n30),(.int .i64 n31),(.int .i64 n32),(.int .i64 n33),(.int .i64 n34),(.sl 2 us23),(.sl 2 us27)]) else none else none else none else none else none else none else none else none else none else none else none else none else none else none else none else none)
 | _=>none))
 | []=>none))
 | []=>none))
 | []=>none))
 | []=>none))
 | []=>none))
 | []=>none))
 | []=>none))
 | []=>none))
 | []=>none):=(h.is _ rfl).trans ((Qah rfl).trans (by kernel_rfl))
def f11_b0:AC :=
 (.seq (rg [oo 15 (.bin .lss (.t 14) (.t 13))])
 (.seq (.cond (.t 15) .skip (.exit 0))
 (.seq (.block 1 (.seq (rg [oo 16 (.iaddr 9 (.t 12) (.t 14)),
 oo 17 (.load true 9 (.t 16)),
 oo 5 (.alloc 5 (.agg [(.int .i64 0),(.int .i64 0),(.int .i64 0),(.int .i64 0),(.int .i64 0),(.int .i64 0),(.int .i64 0),(.nsl 2),(.nsl 2)])),
 ⟨none,.store 9 (.t 5) (.t 17),none⟩])
 (.seq (rg [oo 18 (.faddr 2 2 (.t 5)),
 oo 19 (.load false 1 (.t 18)),
 oo 20 (.bin .eql (.t 19) (ci 2))])
 (.cond (.t 20) (.seq (rg [oo 21 (.load true 9 (.t 5)),
 oo 22 (.callF 22 false [(.agg [.int,.int,.int,.int,.int,.int,.int,(.sl 2),(.sl 2)])] 222 [(.t 21)]),
 oo 6 (.alloc 6 (.agg [(.int .i64 0),(.int .i64 0),(.int .i64 0),(.int .i64 0),(.int .i64 0),(.int .i64 0),(.int .i64 0),(.nsl 2),(.nsl 2)])),
 ⟨none,.storeM 3000 9 (.t 6) (.t 22),none⟩])
 (rg [oo 23 (.mv (.t 3)),
 oo 24 (.faddr 0 0 (.t 6)),
 oo 25 (.load false 1 (.t 24)),
 oo 26 (.faddr 6 6 (.t 6)),
 oo 27 (.load false 1 (.t 26)),
 oo 28 (.faddr 7 7 (.t 6)),
 oo 29 (.loadO (.sl 2) (.t 28)),
 oo 30 (.faddr 8 8 (.t 6)),
 oo 31 (.loadO (.sl 2) (.t 30)),
 oo 32 (.build [(.int .i64 0),(.int .i64 0),(.nsl 2),(.nsl 2)] [(0,(.t 25)),(1,(.t 27)),(2,(.t 29)),(3,(.t 31))]),
 oo 33 (.bslice 2 33 4 1 (.agg [(.int .i64 0),(.int .i64 0),(.nsl 2),(.nsl 2)]) [(0,(.t 32))]),
 oo 34 (.append true 34 4 64 (.t 23) (.t 33)),
 oo 3 (.mv (.t 34))])) .skip))))
 (rg [oo 35 (.bin .add (.t 14) (ci 1)),
 oo 14 (.mv (.t 35))]))))
def f11_r0:AC :=
 (.seq (rg [oo 36 (.mv (.t 3)),
 oo 37 (.callM 4 472 (.t 36) [(.c (.fn 471 []))])])
 (.seq (rg [oo 38 (.mv (.t 3)),
 oo 2 (.mv (.t 38))])
 .ret))
def f11_ac:AC :=
 (.seq (rg [oo 1 (.box false 1 (.t 0)),
 oo 2 (.mv (.c (.nsl 4)))])
 (.seq (.seq (rg [oo 7 (.load true 6 (.t 1)),
 oo 8 (.call false 148 [(.t 7)]),
 oo 9 (.un .not (.t 8))])
 (.cond (.t 9) (.seq (rg [oo 2 (.mv (.c (.nsl 4)))])
 .ret) .skip))
 (.seq (rg [oo 10 (.bslice 2 10 4 0 (.agg [(.int .i64 0),(.int .i64 0),(.nsl 2),(.nsl 2)]) []),
 oo 3 (.mv (.t 10))])
 (.seq (.seq (rg [oo 11 (.faddr 2 2 (.t 1)),
 oo 12 (.load false 1 (.t 11)),
 oo 13 (.len false (.t 12)),
 oo 14 (.mv (ci 0))])
 (.block 0 (.loop ⟨[12,13,14],[(3,4,true)],[]⟩ f11_b0)))
 f11_r0))))
noncomputable def f11_l0 (E:Env) (x12:U) (x13:U) (x14:U) (c3:List U):Option U:=loopK (roundOf E ⟨[12,13,14],[(3,4,true)],[]⟩ f11_b0 (blockK 0 (seqK (fun s=>exec E f11_r0 s (finish [(2,none)])) (finish [(2,none)])))) ([.val x12,.val x13,.val x14],[.vir (.own (.sl 4 c3))])
theorem Qkk (E:Env) (x12:U) (x13:U) (x14:U) (c3:List U):f11_l0 E x12 x13 x14 c3 =
 (U.bin .lss x14 x13).bind fun t9=>U.asBool t9
 (U.asInt x14 fun n10=>U.elemAt 9 x12 n10 fun e11=>U.asVar true 9 e11 fun e12=>if storable (.val e12) = true ∧ e12.size = 9 then U.asAgg e12 fun us13=>if 2 = sizes (us13.take 2) then (us13[2]?).bind fun e14=>U.asVar false 1 e14 fun e15=>(U.bin .eql e15 (.int .i64 2)).bind fun t16=>U.asBool t16
 (U.asVar true 9 e12 fun e17=>(E 100222 [e17]).bind fun t18=>U.noTup t18 fun x19=>U.asAgg x19 fun us20=>(match us20 with
 | u21 :: us22=>(U.asInt u21 fun n23=>(match us22 with
 | u24 :: us25=>(U.asInt u24 fun n26=>(match us25 with
 | u27 :: us28=>(U.asInt u27 fun n29=>(match us28 with
 | u30 :: us31=>(U.asInt u30 fun n32=>(match us31 with
 | u33 :: us34=>(U.asInt u33 fun n35=>(match us34 with
 | u36 :: us37=>(U.asInt u36 fun n38=>(match us37 with
 | u39 :: us40=>(U.asInt u39 fun n41=>(match us40 with
 | u42 :: us43=>(U.asSlK 2 u42 fun us44=>(match us43 with
 | u45 :: us46=>(U.asSlK 2 u45 fun us47=>(match us46 with
 | []=>(if ((c3).length + ([(.agg [(.int .i64 n23),(.int .i64 n41),(.sl 2 us44),(.sl 2 us47)])]:List U).length) * 64 ≤ 140737488355328 then (U.bin .add x14 (.int .i64 1)).bind fun t48=>f11_l0 E x12 x13 t48 (c3 ++ ([(.agg [(.int .i64 n23),(.int .i64 n41),(.sl 2 us44),(.sl 2 us47)])]:List U)) else none)
 | _=>none))
 | []=>none))
 | []=>none))
 | []=>none))
 | []=>none))
 | []=>none))
 | []=>none))
 | []=>none))
 | []=>none))
 | []=>none))
 ((U.bin .add x14 (.int .i64 1)).bind fun t49=>f11_l0 E x12 x13 t49 c3) else none else none)
 ((E 200472 (.agg [.tup [.sl 4 c3]] :: [(.fn 471 [])])).bind fun t50=>U.asMut 4 t50 fun y51 ys52=>U.asFlat y51 fun y51=>some (.sl 4 ys52)):=(Qf E _ _ _ _).trans (by kernel_rfl)
structure G_f11 (E:Env):Prop where
 is:Is E 469 1 f11_ac [(2,none)]
 c_f16:G_f16 E
 c_f12:G_f12 E
 c_f28:G_f28 E
 c_slices_SortStableFunc_g472:IsStab E 472 471 4 key1 isEnt
theorem f11_E {E:Env} (h:G_f11 E) (a0:U):E 469 [a0] =
 U.noTup a0 fun x1=>U.asVar true 6 x1 fun e2=>(E 148 [e2]).bind fun t3=>(U.un .not t3).bind fun t4=>U.asBool t4
 (some (.nsl 4))
 (U.asAgg x1 fun us5=>if 2 = sizes (us5.take 2) then (us5[2]?).bind fun e6=>U.asVar false 1 e6 fun e7=>(U.lenOf false e7).bind fun n8=>f11_l0 E e7 (.int .i64 (n8:Int)) (.int .i64 0) [] else none):=(h.is _ rfl).trans ((Qa rfl).trans (by kernel_rfl))
def f48_ac:AC :=
 (.seq (rg [oo 2 (.box false 2 (.t 0)),
 oo 3 (.box false 3 (.t 1)),
 oo 4 (.mv (.c (.bool false)))])
 (.seq (.seq (rg [oo 5 (.faddr 0 0 (.t 2)),
 oo 6 (.load false 1 (.t 5)),
 oo 7 (.faddr 0 0 (.t 3)),
 oo 8 (.load false 1 (.t 7)),
 oo 9 (.bin .neq (.t 6) (.t 8))])
 (.cond (.t 9) (.seq (rg [oo 4 (.mv (.c (.bool false)))])
 .ret) .skip))
 (.seq (.seq (rg [oo 10 (.faddr 1 1 (.t 2)),
 oo 11 (.load false 1 (.t 10)),
 oo 12 (.faddr 1 1 (.t 3)),
 oo 13 (.load false 1 (.t 12)),
 oo 14 (.bin .neq (.t 11) (.t 13))])
 (.cond (.t 14) (.seq (rg [oo 4 (.mv (.c (.bool false)))])
 .ret) .skip))
 (.seq (.seq (rg [oo 15 (.faddr 2 2 (.t 2)),
 oo 16 (.load false 1 (.t 15)),
 oo 17 (.faddr 2 2 (.t 3)),
 oo 18 (.load false 1 (.t 17)),
 oo 19 (.bin .neq (.t 16) (.t 18))])
 (.cond (.t 19) (.seq (rg [oo 4 (.mv (.c (.bool false)))])
 .ret) .skip))
 (.seq (.seq (rg [oo 20 (.faddr 3 3 (.t 2)),
 oo 21 (.load false 1 (.t 20)),
 oo 22 (.faddr 3 3 (.t 3)),
 oo 23 (.load false 1 (.t 22)),
 oo 24 (.bin .neq (.t 21) (.t 23))])
 (.cond (.t 24) (.seq (rg [oo 4 (.mv (.c (.bool false)))])
 .ret) .skip))
 (.seq (.seq (rg [oo 25 (.faddr 4 4 (.t 2)),
 oo 26 (.load false 1 (.t 25)),
 oo 27 (.faddr 4 4 (.t 3)),
 oo 28 (.load false 1 (.t 27)),
 oo 29 (.bin .neq (.t 26) (.t 28))])
 (.cond (.t 29) (.seq (rg [oo 4 (.mv (.c (.bool false)))])
 .ret) .skip))
 (.seq (rg [oo 4 (.mv (.c (.bool true)))])
 .ret)))))))
structure G_f48 (E:Env):Prop where
 is:Is E 120 2 f48_ac [(4,none)]
theorem f48_E {E:Env} (h:G_f48 E) (a0 a1:U):E 120 [a0,a1] =
 U.noTup a0 fun x1=>U.noTup a1 fun x2=>U.asAgg x1 fun us3=>if 0 = sizes (us3.take 0) then (us3[0]?).bind fun e4=>U.asVar false 1 e4 fun e5=>U.asAgg x2 fun us6=>if 0 = sizes (us6.take 0) then (us6[0]?).bind fun e7=>U.asVar false 1 e7 fun e8=>(U.bin .neq e5 e8).bind fun t9=>U.asBool t9
 (some (.bool false))
 (U.asAgg x1 fun us10=>if 1 = sizes (us10.take 1) then (us10[1]?).bind fun e11=>U.asVar false 1 e11 fun e12=>U.asAgg x2 fun us13=>if 1 = sizes (us13.take 1) then (us13[1]?).bind fun e14=>U.asVar false 1 e14 fun e15=>(U.bin .neq e12 e15).bind fun t16=>U.asBool t16
 (some (.bool false))
 (U.asAgg x1 fun us17=>if 2 = sizes (us17.take 2) then (us17[2]?).bind fun e18=>U.asVar false 1 e18 fun e19=>U.asAgg x2 fun us20=>if 2 = sizes (us20.take 2) then (us20[2]?).bind fun e21=>U.asVar false 1 e21 fun e22=>(U.bin .neq e19 e22).bind fun t23=>U.asBool t23
 (some (.bool false))
 (U.asAgg x1 fun us24=>if 3 = sizes (us24.take 3) then (us24[3]?).bind fun e25=>U.asVar false 1 e25 fun e26=>U.asAgg x2 fun us27=>if 3 = sizes (us27.take 3) then (us27[3]?).bind fun e28=>U.asVar false 1 e28 fun e29=>(U.bin .neq e26 e29).bind fun t30=>U.asBool t30
 (some (.bool false))
 (U.asAgg x1 fun us31=>if 4 = sizes (us31.take 4) then (us31[4]?).bind fun e32=>U.asVar false 1 e32 fun e33=>U.asAgg x2 fun us34=>if 4 = sizes (us34.take 4) then (us34[4]?).bind fun e35=>U.asVar false 1 e35 fun e36=>(U.bin .neq e33 e36).bind fun t37=>U.asBool t37
 (some (.bool false))
 (some (.bool true)) else none else none) else none else none) else none else none) else none else none) else none else none:=(h.is _ rfl).trans ((Qa rfl).trans (by kernel_rfl))
def f49_b0:AC :=
 (.seq (.seq (rg [oo 11 (.mv (.t 5)),
 oo 12 (.mv (.t 0)),
 oo 13 (.len false (.t 12)),
 oo 14 (.bin .lss (.t 11) (.t 13))])
 (.cond (.t 14) .skip (.exit 0)))
 (.seq (.block 1 (.seq (.region 10 [oo 17 (.mv (.t 0)),
 oo 18 (.mv (.t 5)),
 oo 19 (.iaddr 5 (.t 17) (.t 18)),
 oo 20 (.load true 5 (.t 19)),
 oo 21 (.mv (.t 1)),
 oo 22 (.mv (.t 5)),
 oo 23 (.iaddr 5 (.t 21) (.t 22)),
 oo 24 (.load true 5 (.t 23)),
 oo 25 (.call false 120 [(.t 20),(.t 24)]),
 oo 26 (.un .not (.t 25))])
 (.cond (.t 26) (.seq (rg [oo 4 (.mv (.c (.bool false)))])
 .ret) .skip)))
 (rg [oo 15 (.mv (.t 5)),
 oo 16 (.bin .add (.t 15) (ci 1)),
 oo 5 (.mv (.t 16))])))
def f49_r0:AC :=
 (.seq (rg [oo 4 (.mv (.c (.bool true)))])
 .ret)
def f49_ac:AC :=
 (.seq (rg [oo 4 (.mv (.c (.bool false)))])
 (.seq (.seq (rg [oo 6 (.mv (.t 0)),
 oo 7 (.len false (.t 6)),
 oo 8 (.mv (.t 1)),
 oo 9 (.len false (.t 8)),
 oo 10 (.bin .neq (.t 7) (.t 9))])
 (.cond (.t 10) (.seq (rg [oo 4 (.mv (.c (.bool false)))])
 .ret) .skip))
 (.seq (.seq (rg [oo 5 (.mv (ci 0))])
 (.block 0 (.loop ⟨[0,1,5],[],[]⟩ f49_b0)))
 f49_r0)))
noncomputable def f49_l0 (E:Env) (x0:U) (x1:U) (x5:U):Option U:=loopK (roundOf E ⟨[0,1,5],[],[]⟩ f49_b0 (blockK 0 (seqK (fun s=>exec E f49_r0 s (finish [(4,none)])) (finish [(4,none)])))) ([.val x0,.val x1,.val x5],[])
theorem Ql2 (E:Env) (x0:U) (x1:U) (x5:U):f49_l0 E x0 x1 x5 =
 (U.lenOf false x0).bind fun n4=>(U.bin .lss x5 (.int .i64 (n4:Int))).bind fun t5=>U.asBool t5
 (U.asInt x5 fun n6=>U.elemAt 5 x0 n6 fun e7=>U.asVar true 5 e7 fun e8=>U.asInt x5 fun n9=>U.elemAt 5 x1 n9 fun e10=>U.asVar true 5 e10 fun e11=>(E 120 [e8,e11]).bind fun t12=>(U.un .not t12).bind fun t13=>U.asBool t13
 (some (.bool false))
 ((U.bin .add x5 (.int .i64 1)).bind fun t14=>f49_l0 E x0 x1 t14))
 (some (.bool true)):=(Qf E _ _ _ _).trans (by kernel_rfl)
structure G_f49 (E:Env):Prop where
 is:Is E 119 2 f49_ac [(4,none)]
 c_f48:G_f48 E
theorem f49_E {E:Env} (h:G_f49 E) (a0 a1:U):E 119 [a0,a1] =
 (U.lenOf false a0).bind fun n1=>(U.lenOf false a1).bind fun n2=>(U.bin .neq (.int .i64 (n1:Int)) (.int .i64 (n2:Int))).bind fun t3=>U.asBool t3
 (some (.bool false))
 (f49_l0 E a0 a1 (.int .i64 0)):=(h.is _ rfl).trans ((Qa rfl).trans (by kernel_rfl))
def f50_b0:AC :=
 (.seq (.seq (rg [oo 11 (.mv (.t 5)),
 oo 12 (.mv (.t 0)),
 oo 13 (.len false (.t 12)),
 oo 14 (.bin .lss (.t 11) (.t 13))])
 (.cond (.t 14) .skip (.exit 0)))
 (.seq (.block 1 (.seq (.region 10 [oo 17 (.mv (.t 0)),
 oo 18 (.mv (.t 5)),
 oo 19 (.iaddr 1 (.t 17) (.t 18)),
 oo 20 (.load false 1 (.t 19)),
 oo 21 (.mv (.t 1)),
 oo 22 (.mv (.t 5)),
 oo 23 (.iaddr 1 (.t 21) (.t 22)),
 oo 24 (.load false 1 (.t 23)),
 oo 25 (.call false 119 [(.t 20),(.t 24)]),
 oo 26 (.un .not (.t 25))])
 (.cond (.t 26) (.seq (rg [oo 4 (.mv (.c (.bool false)))])
 .ret) .skip)))
 (rg [oo 15 (.mv (.t 5)),
 oo 16 (.bin .add (.t 15) (ci 1)),
 oo 5 (.mv (.t 16))])))
def f50_r0:AC :=
 (.seq (rg [oo 4 (.mv (.c (.bool true)))])
 .ret)
def f50_ac:AC :=
 (.seq (rg [oo 4 (.mv (.c (.bool false)))])
 (.seq (.seq (rg [oo 6 (.mv (.t 0)),
 oo 7 (.len false (.t 6)),
 oo 8 (.mv (.t 1)),
 oo 9 (.len false (.t 8)),
 oo 10 (.bin .neq (.t 7) (.t 9))])
 (.cond (.t 10) (.seq (rg [oo 4 (.mv (.c (.bool false)))])
 .ret) .skip))
 (.seq (.seq (rg [oo 5 (.mv (ci 0))])
 (.block 0 (.loop ⟨[0,1,5],[],[]⟩ f50_b0)))
 f50_r0)))
noncomputable def f50_l0 (E:Env) (x0:U) (x1:U) (x5:U):Option U:=loopK (roundOf E ⟨[0,1,5],[],[]⟩ f50_b0 (blockK 0 (seqK (fun s=>exec E f50_r0 s (finish [(4,none)])) (finish [(4,none)])))) ([.val x0,.val x1,.val x5],[])
theorem Ql6 (E:Env) (x0:U) (x1:U) (x5:U):f50_l0 E x0 x1 x5 =
 (U.lenOf false x0).bind fun n4=>(U.bin .lss x5 (.int .i64 (n4:Int))).bind fun t5=>U.asBool t5
 (U.asInt x5 fun n6=>U.elemAt 1 x0 n6 fun e7=>U.asVar false 1 e7 fun e8=>U.asInt x5 fun n9=>U.elemAt 1 x1 n9 fun e10=>U.asVar false 1 e10 fun e11=>(E 119 [e8,e11]).bind fun t12=>(U.un .not t12).bind fun t13=>U.asBool t13
 (some (.bool false))
 ((U.bin .add x5 (.int .i64 1)).bind fun t14=>f50_l0 E x0 x1 t14))
 (some (.bool true)):=(Qf E _ _ _ _).trans (by kernel_rfl)
structure G_f50 (E:Env):Prop where
 is:Is E 118 2 f50_ac [(4,none)]
 c_f49:G_f49 E
theorem f50_E {E:Env} (h:G_f50 E) (a0 a1:U):E 118 [a0,a1] =
 (U.lenOf false a0).bind fun n1=>(U.lenOf false a1).bind fun n2=>(U.bin .neq (.int .i64 (n1:Int)) (.int .i64 (n2:Int))).bind fun t3=>U.asBool t3
 (some (.bool false))
 (f50_l0 E a0 a1 (.int .i64 0)):=(h.is _ rfl).trans ((Qa rfl).trans (by kernel_rfl))
def f45_ac:AC :=
 (.seq (rg [oo 2 (.box false 2 (.t 0)),
 oo 3 (.box false 3 (.t 1)),
 oo 4 (.mv (.c (.bool false)))])
 (.seq (.seq (rg [oo 5 (.faddr 0 0 (.t 2)),
 oo 6 (.load false 1 (.t 5)),
 oo 7 (.faddr 0 0 (.t 3)),
 oo 8 (.load false 1 (.t 7)),
 oo 9 (.call false 118 [(.t 6),(.t 8)]),
 oo 10 (.un .not (.t 9))])
 (.cond (.t 10) (.seq (rg [oo 4 (.mv (.c (.bool false)))])
 .ret) .skip))
 (.seq (rg [oo 4 (.mv (.c (.bool true)))])
 .ret)))
structure G_f45 (E:Env):Prop where
 is:Is E 97 2 f45_ac [(4,none)]
 c_f50:G_f50 E
theorem f45_E {E:Env} (h:G_f45 E) (a0 a1:U):E 97 [a0,a1] =
 U.noTup a0 fun x1=>U.noTup a1 fun x2=>U.asAgg x1 fun us3=>if 0 = sizes (us3.take 0) then (us3[0]?).bind fun e4=>U.asVar false 1 e4 fun e5=>U.asAgg x2 fun us6=>if 0 = sizes (us6.take 0) then (us6[0]?).bind fun e7=>U.asVar false 1 e7 fun e8=>(E 118 [e5,e8]).bind fun t9=>(U.un .not t9).bind fun t10=>U.asBool t10
 (some (.bool false))
 (some (.bool true)) else none else none:=(h.is _ rfl).trans ((Qa rfl).trans (by kernel_rfl))
def f46_ac:AC :=
 (.seq (rg [oo 2 (.box false 2 (.t 0)),
 oo 3 (.box false 3 (.t 1)),
 oo 4 (.mv (.c (.bool false)))])
 (.seq (.seq (rg [oo 5 (.faddr 0 0 (.t 2)),
 oo 6 (.load false 1 (.t 5)),
 oo 7 (.faddr 0 0 (.t 3)),
 oo 8 (.load false 1 (.t 7)),
 oo 9 (.bin .neq (.t 6) (.t 8))])
 (.cond (.t 9) (.seq (rg [oo 4 (.mv (.c (.bool false)))])
 .ret) .skip))
 (.seq (.seq (rg [oo 10 (.faddr 1 1 (.t 2)),
 oo 11 (.load false 1 (.t 10)),
 oo 12 (.faddr 1 1 (.t 3)),
 oo 13 (.load false 1 (.t 12)),
 oo 14 (.bin .neq (.t 11) (.t 13))])
 (.cond (.t 14) (.seq (rg [oo 4 (.mv (.c (.bool false)))])
 .ret) .skip))
 (.seq (.seq (rg [oo 15 (.faddr 2 2 (.t 2)),
 oo 16 (.load false 1 (.t 15)),
 oo 17 (.faddr 2 2 (.t 3)),
 oo 18 (.load false 1 (.t 17)),
 oo 19 (.bin .neq (.t 16) (.t 18))])
 (.cond (.t 19) (.seq (rg [oo 4 (.mv (.c (.bool false)))])
 .ret) .skip))
 (.seq (.seq (rg [oo 20 (.faddr 3 3 (.t 2)),
 oo 21 (.load false 1 (.t 20)),
 oo 22 (.faddr 3 3 (.t 3)),
 oo 23 (.load false 1 (.t 22)),
 oo 24 (.bin .neq (.t 21) (.t 23))])
 (.cond (.t 24) (.seq (rg [oo 4 (.mv (.c (.bool false)))])
 .ret) .skip))
 (.seq (.seq (rg [oo 25 (.faddr 4 4 (.t 2)),
 oo 26 (.load false 1 (.t 25)),
 oo 27 (.faddr 4 4 (.t 3)),
 oo 28 (.load false 1 (.t 27)),
 oo 29 (.bin .neq (.t 26) (.t 28))])
 (.cond (.t 29) (.seq (rg [oo 4 (.mv (.c (.bool false)))])
 .ret) .skip))
 (.seq (.seq (rg [oo 30 (.faddr 5 5 (.t 2)),
 oo 31 (.load false 1 (.t 30)),
 oo 32 (.faddr 5 5 (.t 3)),
 oo 33 (.load false 1 (.t 32)),
 oo 34 (.bin .neq (.t 31) (.t 33))])
 (.cond (.t 34) (.seq (rg [oo 4 (.mv (.c (.bool false)))])
 .ret) .skip))
 (.seq (.seq (rg [oo 35 (.faddr 6 6 (.t 2)),
 oo 36 (.load false 1 (.t 35)),
 oo 37 (.faddr 6 6 (.t 3)),
 oo 38 (.load false 1 (.t 37)),
 oo 39 (.bin .neq (.t 36) (.t 38))])
 (.cond (.t 39) (.seq (rg [oo 4 (.mv (.c (.bool false)))])
 .ret) .skip))
 (.seq (.seq (rg [oo 40 (.faddr 7 7 (.t 2)),
 oo 41 (.load false 1 (.t 40)),
 oo 42 (.faddr 7 7 (.t 3)),
 oo 43 (.load false 1 (.t 42)),
 oo 44 (.call false 34 [(.t 41),(.t 43)]),
 oo 45 (.un .not (.t 44))])
 (.cond (.t 45) (.seq (rg [oo 4 (.mv (.c (.bool false)))])
 .ret) .skip))
 (.seq (.seq (rg [oo 46 (.faddr 8 8 (.t 2)),
 oo 47 (.load false 1 (.t 46)),
 oo 48 (.faddr 8 8 (.t 3)),
 oo 49 (.load false 1 (.t 48)),
 oo 50 (.call false 33 [(.t 47),(.t 49)]),
 oo 51 (.un .not (.t 50))])
 (.cond (.t 51) (.seq (rg [oo 4 (.mv (.c (.bool false)))])
 .ret) .skip))
 (.seq (rg [oo 4 (.mv (.c (.bool true)))])
 .ret)))))))))))
structure G_f46 (E:Env):Prop where
 is:Is E 177 2 f46_ac [(4,none)]
 c_f44:G_f44 E
 c_f54:G_f54 E
theorem f46_E {E:Env} (h:G_f46 E) (a0 a1:U):E 177 [a0,a1] =
 U.noTup a0 fun x1=>U.noTup a1 fun x2=>U.asAgg x1 fun us3=>if 0 = sizes (us3.take 0) then (us3[0]?).bind fun e4=>U.asVar false 1 e4 fun e5=>U.asAgg x2 fun us6=>if 0 = sizes (us6.take 0) then (us6[0]?).bind fun e7=>U.asVar false 1 e7 fun e8=>(U.bin .neq e5 e8).bind fun t9=>U.asBool t9
 (some (.bool false))
 (U.asAgg x1 fun us10=>if 1 = sizes (us10.take 1) then (us10[1]?).bind fun e11=>U.asVar false 1 e11 fun e12=>U.asAgg x2 fun us13=>if 1 = sizes (us13.take 1) then (us13[1]?).bind fun e14=>U.asVar false 1 e14 fun e15=>(U.bin .neq e12 e15).bind fun t16=>U.asBool t16
 (some (.bool false))
 (U.asAgg x1 fun us17=>if 2 = sizes (us17.take 2) then (us17[2]?).bind fun e18=>U.asVar false 1 e18 fun e19=>U.asAgg x2 fun us20=>if 2 = sizes (us20.take 2) then (us20[2]?).bind fun e21=>U.asVar false 1 e21 fun e22=>(U.bin .neq e19 e22).bind fun t23=>U.asBool t23
 (some (.bool false))
 (U.asAgg x1 fun us24=>if 3 = sizes (us24.take 3) then (us24[3]?).bind fun e25=>U.asVar false 1 e25 fun e26=>U.asAgg x2 fun us27=>if 3 = sizes (us27.take 3) then (us27[3]?).bind fun e28=>U.asVar false 1 e28 fun e29=>(U.bin .neq e26 e29).bind fun t30=>U.asBool t30
 (some (.bool false))
 (U.asAgg x1 fun us31=>if 4 = sizes (us31.take 4) then (us31[4]?).bind fun e32=>U.asVar false 1 e32 fun e33=>U.asAgg x2 fun us34=>if 4 = sizes (us34.take 4) then (us34[4]?).bind fun e35=>U.asVar false 1 e35 fun e36=>(U.bin .neq e33 e36).bind fun t37=>U.asBool t37
 (some (.bool false))
 (U.asAgg x1 fun us38=>if 5 = sizes (us38.take 5) then (us38[5]?).bind fun e39=>U.asVar false 1 e39 fun e40=>U.asAgg x2 fun us41=>if 5 = sizes (us41.take 5) then (us41[5]?).bind fun e42=>U.asVar false 1 e42 fun e43=>(U.bin .neq e40 e43).bind fun t44=>U.asBool t44
 (some (.bool false))
 (U.asAgg x1 fun us45=>if 6 = sizes (us45.take 6) then (us45[6]?).bind fun e46=>U.asVar false 1 e46 fun e47=>U.asAgg x2 fun us48=>if 6 = sizes (us48.take 6) then (us48[6]?).bind fun e49=>U.asVar false 1 e49 fun e50=>(U.bin .neq e47 e50).bind fun t51=>U.asBool t51
 (some (.bool false))
 (U.asAgg x1 fun us52=>if 7 = sizes (us52.take 7) then (us52[7]?).bind fun e53=>U.asVar false 1 e53 fun e54=>U.asAgg x2 fun us55=>if 7 = sizes (us55.take 7) then (us55[7]?).bind fun e56=>U.asVar false 1 e56 fun e57=>(E 34 [e54,e57]).bind fun t58=>(U.un .not t58).bind fun t59=>U.asBool t59
 (some (.bool false))
 (U.asAgg x1 fun us60=>if 8 = sizes (us60.take 8) then (us60[8]?).bind fun e61=>U.asVar false 1 e61 fun e62=>U.asAgg x2 fun us63=>if 8 = sizes (us63.take 8) then (us63[8]?).bind fun e64=>U.asVar false 1 e64 fun e65=>(E 33 [e62,e65]).bind fun t66=>(U.un .not t66).bind fun t67=>U.asBool t67
 (some (.bool false))
 (some (.bool true)) else none else none) else none else none) else none else none) else none else none) else none else none) else none else none) else none else none) else none else none) else none else none:=(h.is _ rfl).trans ((Qa rfl).trans (by kernel_rfl))
def f47_b0:AC :=
 (.seq (.seq (rg [oo 11 (.mv (.t 5)),
 oo 12 (.mv (.t 0)),
 oo 13 (.len false (.t 12)),
 oo 14 (.bin .lss (.t 11) (.t 13))])
 (.cond (.t 14) .skip (.exit 0)))
 (.seq (.block 1 (.seq (.region 10 [oo 17 (.mv (.t 0)),
 oo 18 (.mv (.t 5)),
 oo 19 (.iaddr 9 (.t 17) (.t 18)),
 oo 20 (.load true 9 (.t 19)),
 oo 21 (.mv (.t 1)),
 oo 22 (.mv (.t 5)),
 oo 23 (.iaddr 9 (.t 21) (.t 22)),
 oo 24 (.load true 9 (.t 23)),
 oo 25 (.call false 177 [(.t 20),(.t 24)]),
 oo 26 (.un .not (.t 25))])
 (.cond (.t 26) (.seq (rg [oo 4 (.mv (.c (.bool false)))])
 .ret) .skip)))
 (rg [oo 15 (.mv (.t 5)),
 oo 16 (.bin .add (.t 15) (ci 1)),
 oo 5 (.mv (.t 16))])))
def f47_r0:AC :=
 (.seq (rg [oo 4 (.mv (.c (.bool true)))])
 .ret)
def f47_ac:AC :=
 (.seq (rg [oo 4 (.mv (.c (.bool false)))])
 (.seq (.seq (rg [oo 6 (.mv (.t 0)),
 oo 7 (.len false (.t 6)),
 oo 8 (.mv (.t 1)),
 oo 9 (.len false (.t 8)),
 oo 10 (.bin .neq (.t 7) (.t 9))])
 (.cond (.t 10) (.seq (rg [oo 4 (.mv (.c (.bool false)))])
 .ret) .skip))
 (.seq (.seq (rg [oo 5 (.mv (ci 0))])
 (.block 0 (.loop ⟨[0,1,5],[],[]⟩ f47_b0)))
 f47_r0)))
noncomputable def f47_l0 (E:Env) (x0:U) (x1:U) (x5:U):Option U:=loopK (roundOf E ⟨[0,1,5],[],[]⟩ f47_b0 (blockK 0 (seqK (fun s=>exec E f47_r0 s (finish [(4,none)])) (finish [(4,none)])))) ([.val x0,.val x1,.val x5],[])
theorem Qly (E:Env) (x0:U) (x1:U) (x5:U):f47_l0 E x0 x1 x5 =
 (U.lenOf false x0).bind fun n4=>(U.bin .lss x5 (.int .i64 (n4:Int))).bind fun t5=>U.asBool t5
 (U.asInt x5 fun n6=>U.elemAt 9 x0 n6 fun e7=>U.asVar true 9 e7 fun e8=>U.asInt x5 fun n9=>U.elemAt 9 x1 n9 fun e10=>U.asVar true 9 e10 fun e11=>(E 177 [e8,e11]).bind fun t12=>(U.un .not t12).bind fun t13=>U.asBool t13
 (some (.bool false))
 ((U.bin .add x5 (.int .i64 1)).bind fun t14=>f47_l0 E x0 x1 t14))
 (some (.bool true)):=(Qf E _ _ _ _).trans (by kernel_rfl)
structure G_f47 (E:Env):Prop where
 is:Is E 176 2 f47_ac [(4,none)]
 c_f46:G_f46 E
theorem f47_E {E:Env} (h:G_f47 E) (a0 a1:U):E 176 [a0,a1] =
 (U.lenOf false a0).bind fun n1=>(U.lenOf false a1).bind fun n2=>(U.bin .neq (.int .i64 (n1:Int)) (.int .i64 (n2:Int))).bind fun t3=>U.asBool t3
 (some (.bool false))
 (f47_l0 E a0 a1 (.int .i64 0)):=(h.is _ rfl).trans ((Qa rfl).trans (by kernel_rfl))
def f41_ac:AC :=
 (.seq (rg [oo 2 (.box false 2 (.t 0)),
 oo 3 (.box false 3 (.t 1)),
 oo 4 (.mv (.c (.bool false)))])
 (.seq (.seq (rg [oo 5 (.faddr 0 0 (.t 2)),
 oo 6 (.load false 1 (.t 5)),
 oo 7 (.faddr 0 0 (.t 3)),
 oo 8 (.load false 1 (.t 7)),
 oo 9 (.bin .neq (.t 6) (.t 8))])
 (.cond (.t 9) (.seq (rg [oo 4 (.mv (.c (.bool false)))])
 .ret) .skip))
 (.seq (.seq (rg [oo 10 (.faddr 1 1 (.t 2)),
 oo 11 (.load false 1 (.t 10)),
 oo 12 (.faddr 1 1 (.t 3)),
 oo 13 (.load false 1 (.t 12)),
 oo 14 (.bin .neq (.t 11) (.t 13))])
 (.cond (.t 14) (.seq (rg [oo 4 (.mv (.c (.bool false)))])
 .ret) .skip))
 (.seq (rg [oo 4 (.mv (.c (.bool true)))])
 .ret))))
structure G_f41 (E:Env):Prop where
 is:Is E 178 2 f41_ac [(4,none)]
theorem f41_E {E:Env} (h:G_f41 E) (a0 a1:U):E 178 [a0,a1] =
 U.noTup a0 fun x1=>U.noTup a1 fun x2=>U.asAgg x1 fun us3=>if 0 = sizes (us3.take 0) then (us3[0]?).bind fun e4=>U.asVar false 1 e4 fun e5=>U.asAgg x2 fun us6=>if 0 = sizes (us6.take 0) then (us6[0]?).bind fun e7=>U.asVar false 1 e7 fun e8=>(U.bin .neq e5 e8).bind fun t9=>U.asBool t9
 (some (.bool false))
 (U.asAgg x1 fun us10=>if 1 = sizes (us10.take 1) then (us10[1]?).bind fun e11=>U.asVar false 1 e11 fun e12=>U.asAgg x2 fun us13=>if 1 = sizes (us13.take 1) then (us13[1]?).bind fun e14=>U.asVar false 1 e14 fun e15=>(U.bin .neq e12 e15).bind fun t16=>U.asBool t16
 (some (.bool false))
 (some (.bool true)) else none else none) else none else none:=(h.is _ rfl).trans ((Qa rfl).trans (by kernel_rfl))
def f42_b0:AC :=
 (.seq (.seq (rg [oo 11 (.mv (.t 5)),
 oo 12 (.mv (.t 0)),
 oo 13 (.len false (.t 12)),
 oo 14 (.bin .lss (.t 11) (.t 13))])
 (.cond (.t 14) .skip (.exit 0)))
 (.seq (.block 1 (.seq (.region 10 [oo 17 (.mv (.t 0)),
 oo 18 (.mv (.t 5)),
 oo 19 (.iaddr 2 (.t 17) (.t 18)),
 oo 20 (.load true 2 (.t 19)),
 oo 21 (.mv (.t 1)),
 oo 22 (.mv (.t 5)),
 oo 23 (.iaddr 2 (.t 21) (.t 22)),
 oo 24 (.load true 2 (.t 23)),
 oo 25 (.call false 178 [(.t 20),(.t 24)]),
 oo 26 (.un .not (.t 25))])
 (.cond (.t 26) (.seq (rg [oo 4 (.mv (.c (.bool false)))])
 .ret) .skip)))
 (rg [oo 15 (.mv (.t 5)),
 oo 16 (.bin .add (.t 15) (ci 1)),
 oo 5 (.mv (.t 16))])))
def f42_r0:AC :=
 (.seq (rg [oo 4 (.mv (.c (.bool true)))])
 .ret)
def f42_ac:AC :=
 (.seq (rg [oo 4 (.mv (.c (.bool false)))])
 (.seq (.seq (rg [oo 6 (.mv (.t 0)),
 oo 7 (.len false (.t 6)),
 oo 8 (.mv (.t 1)),
 oo 9 (.len false (.t 8)),
 oo 10 (.bin .neq (.t 7) (.t 9))])
 (.cond (.t 10) (.seq (rg [oo 4 (.mv (.c (.bool false)))])
 .ret) .skip))
 (.seq (.seq (rg [oo 5 (.mv (ci 0))])
 (.block 0 (.loop ⟨[0,1,5],[],[]⟩ f42_b0)))
 f42_r0)))
noncomputable def f42_l0 (E:Env) (x0:U) (x1:U) (x5:U):Option U:=loopK (roundOf E ⟨[0,1,5],[],[]⟩ f42_b0 (blockK 0 (seqK (fun s=>exec E f42_r0 s (finish [(4,none)])) (finish [(4,none)])))) ([.val x0,.val x1,.val x5],[])
theorem Qls (E:Env) (x0:U) (x1:U) (x5:U):f42_l0 E x0 x1 x5 =
 (U.lenOf false x0).bind fun n4=>(U.bin .lss x5 (.int .i64 (n4:Int))).bind fun t5=>U.asBool t5
 (U.asInt x5 fun n6=>U.elemAt 2 x0 n6 fun e7=>U.asVar true 2 e7 fun e8=>U.asInt x5 fun n9=>U.elemAt 2 x1 n9 fun e10=>U.asVar true 2 e10 fun e11=>(E 178 [e8,e11]).bind fun t12=>(U.un .not t12).bind fun t13=>U.asBool t13
 (some (.bool false))
 ((U.bin .add x5 (.int .i64 1)).bind fun t14=>f42_l0 E x0 x1 t14))
 (some (.bool true)):=(Qf E _ _ _ _).trans (by kernel_rfl)
structure G_f42 (E:Env):Prop where
 is:Is E 175 2 f42_ac [(4,none)]
 c_f41:G_f41 E
theorem f42_E {E:Env} (h:G_f42 E) (a0 a1:U):E 175 [a0,a1] =
 (U.lenOf false a0).bind fun n1=>(U.lenOf false a1).bind fun n2=>(U.bin .neq (.int .i64 (n1:Int)) (.int .i64 (n2:Int))).bind fun t3=>U.asBool t3
 (some (.bool false))
 (f42_l0 E a0 a1 (.int .i64 0)):=(h.is _ rfl).trans ((Qa rfl).trans (by kernel_rfl))
def f51_ac:AC :=
 (.seq (rg [oo 2 (.box false 2 (.t 0)),
 oo 3 (.box false 3 (.t 1)),
 oo 4 (.mv (.c (.bool false)))])
 (.seq (.seq (rg [oo 5 (.faddr 0 0 (.t 2)),
 oo 6 (.load false 1 (.t 5)),
 oo 7 (.faddr 0 0 (.t 3)),
 oo 8 (.load false 1 (.t 7)),
 oo 9 (.bin .neq (.t 6) (.t 8))])
 (.cond (.t 9) (.seq (rg [oo 4 (.mv (.c (.bool false)))])
 .ret) .skip))
 (.seq (.seq (rg [oo 10 (.faddr 1 1 (.t 2)),
 oo 11 (.load false 1 (.t 10)),
 oo 12 (.faddr 1 1 (.t 3)),
 oo 13 (.load false 1 (.t 12)),
 oo 14 (.bin .neq (.t 11) (.t 13))])
 (.cond (.t 14) (.seq (rg [oo 4 (.mv (.c (.bool false)))])
 .ret) .skip))
 (.seq (rg [oo 4 (.mv (.c (.bool true)))])
 .ret))))
structure G_f51 (E:Env):Prop where
 is:Is E 179 2 f51_ac [(4,none)]
theorem f51_E {E:Env} (h:G_f51 E) (a0 a1:U):E 179 [a0,a1] =
 U.noTup a0 fun x1=>U.noTup a1 fun x2=>U.asAgg x1 fun us3=>if 0 = sizes (us3.take 0) then (us3[0]?).bind fun e4=>U.asVar false 1 e4 fun e5=>U.asAgg x2 fun us6=>if 0 = sizes (us6.take 0) then (us6[0]?).bind fun e7=>U.asVar false 1 e7 fun e8=>(U.bin .neq e5 e8).bind fun t9=>U.asBool t9
 (some (.bool false))
 (U.asAgg x1 fun us10=>if 1 = sizes (us10.take 1) then (us10[1]?).bind fun e11=>U.asVar false 1 e11 fun e12=>U.asAgg x2 fun us13=>if 1 = sizes (us13.take 1) then (us13[1]?).bind fun e14=>U.asVar false 1 e14 fun e15=>(U.bin .neq e12 e15).bind fun t16=>U.asBool t16
 (some (.bool false))
 (some (.bool true)) else none else none) else none else none:=(h.is _ rfl).trans ((Qa rfl).trans (by kernel_rfl))
def f52_b0:AC :=
 (.seq (.seq (rg [oo 11 (.mv (.t 5)),
 oo 12 (.mv (.t 0)),
 oo 13 (.len false (.t 12)),
 oo 14 (.bin .lss (.t 11) (.t 13))])
 (.cond (.t 14) .skip (.exit 0)))
 (.seq (.block 1 (.seq (.region 10 [oo 17 (.mv (.t 0)),
 oo 18 (.mv (.t 5)),
 oo 19 (.iaddr 2 (.t 17) (.t 18)),
 oo 20 (.load true 2 (.t 19)),
 oo 21 (.mv (.t 1)),
 oo 22 (.mv (.t 5)),
 oo 23 (.iaddr 2 (.t 21) (.t 22)),
 oo 24 (.load true 2 (.t 23)),
 oo 25 (.call false 179 [(.t 20),(.t 24)]),
 oo 26 (.un .not (.t 25))])
 (.cond (.t 26) (.seq (rg [oo 4 (.mv (.c (.bool false)))])
 .ret) .skip)))
 (rg [oo 15 (.mv (.t 5)),
 oo 16 (.bin .add (.t 15) (ci 1)),
 oo 5 (.mv (.t 16))])))
def f52_r0:AC :=
 (.seq (rg [oo 4 (.mv (.c (.bool true)))])
 .ret)
def f52_ac:AC :=
 (.seq (rg [oo 4 (.mv (.c (.bool false)))])
 (.seq (.seq (rg [oo 6 (.mv (.t 0)),
 oo 7 (.len false (.t 6)),
 oo 8 (.mv (.t 1)),
 oo 9 (.len false (.t 8)),
 oo 10 (.bin .neq (.t 7) (.t 9))])
 (.cond (.t 10) (.seq (rg [oo 4 (.mv (.c (.bool false)))])
 .ret) .skip))
 (.seq (.seq (rg [oo 5 (.mv (ci 0))])
 (.block 0 (.loop ⟨[0,1,5],[],[]⟩ f52_b0)))
 f52_r0)))
noncomputable def f52_l0 (E:Env) (x0:U) (x1:U) (x5:U):Option U:=loopK (roundOf E ⟨[0,1,5],[],[]⟩ f52_b0 (blockK 0 (seqK (fun s=>exec E f52_r0 s (finish [(4,none)])) (finish [(4,none)])))) ([.val x0,.val x1,.val x5],[])
theorem Ql9 (E:Env) (x0:U) (x1:U) (x5:U):f52_l0 E x0 x1 x5 =
 (U.lenOf false x0).bind fun n4=>(U.bin .lss x5 (.int .i64 (n4:Int))).bind fun t5=>U.asBool t5
 (U.asInt x5 fun n6=>U.elemAt 2 x0 n6 fun e7=>U.asVar true 2 e7 fun e8=>U.asInt x5 fun n9=>U.elemAt 2 x1 n9 fun e10=>U.asVar true 2 e10 fun e11=>(E 179 [e8,e11]).bind fun t12=>(U.un .not t12).bind fun t13=>U.asBool t13
 (some (.bool false))
 ((U.bin .add x5 (.int .i64 1)).bind fun t14=>f52_l0 E x0 x1 t14))
 (some (.bool true)):=(Qf E _ _ _ _).trans (by kernel_rfl)
structure G_f52 (E:Env):Prop where
 is:Is E 174 2 f52_ac [(4,none)]
 c_f51:G_f51 E
theorem f52_E {E:Env} (h:G_f52 E) (a0 a1:U):E 174 [a0,a1] =
 (U.lenOf false a0).bind fun n1=>(U.lenOf false a1).bind fun n2=>(U.bin .neq (.int .i64 (n1:Int)) (.int .i64 (n2:Int))).bind fun t3=>U.asBool t3
 (some (.bool false))
 (f52_l0 E a0 a1 (.int .i64 0)):=(h.is _ rfl).trans ((Qa rfl).trans (by kernel_rfl))
def f38_ac:AC :=
 (.seq (rg [oo 2 (.box false 2 (.t 0)),
 oo 3 (.box false 3 (.t 1)),
 oo 4 (.mv (.c (.bool false)))])
 (.seq (.seq (rg [oo 5 (.faddr 0 0 (.t 2)),
 oo 6 (.load false 1 (.t 5)),
 oo 7 (.faddr 0 0 (.t 3)),
 oo 8 (.load false 1 (.t 7)),
 oo 9 (.eqv true 0 (.t 6) (.t 8))])
 (.cond (.t 9) (.seq (rg [oo 4 (.mv (.c (.bool false)))])
 .ret) .skip))
 (.seq (.seq (rg [oo 10 (.faddr 1 1 (.t 2)),
 oo 11 (.load true 1 (.t 10)),
 oo 12 (.faddr 1 1 (.t 3)),
 oo 13 (.load true 1 (.t 12)),
 oo 14 (.call false 97 [(.t 11),(.t 13)]),
 oo 15 (.un .not (.t 14))])
 (.cond (.t 15) (.seq (rg [oo 4 (.mv (.c (.bool false)))])
 .ret) .skip))
 (.seq (.seq (rg [oo 16 (.faddr 2 2 (.t 2)),
 oo 17 (.load false 1 (.t 16)),
 oo 18 (.faddr 2 2 (.t 3)),
 oo 19 (.load false 1 (.t 18)),
 oo 20 (.call false 176 [(.t 17),(.t 19)]),
 oo 21 (.un .not (.t 20))])
 (.cond (.t 21) (.seq (rg [oo 4 (.mv (.c (.bool false)))])
 .ret) .skip))
 (.seq (.seq (rg [oo 22 (.faddr 3 3 (.t 2)),
 oo 23 (.load false 1 (.t 22)),
 oo 24 (.faddr 3 3 (.t 3)),
 oo 25 (.load false 1 (.t 24)),
 oo 26 (.call false 175 [(.t 23),(.t 25)]),
 oo 27 (.un .not (.t 26))])
 (.cond (.t 27) (.seq (rg [oo 4 (.mv (.c (.bool false)))])
 .ret) .skip))
 (.seq (.seq (rg [oo 28 (.faddr 4 4 (.t 2)),
 oo 29 (.load false 1 (.t 28)),
 oo 30 (.faddr 4 4 (.t 3)),
 oo 31 (.load false 1 (.t 30)),
 oo 32 (.call false 174 [(.t 29),(.t 31)]),
 oo 33 (.un .not (.t 32))])
 (.cond (.t 33) (.seq (rg [oo 4 (.mv (.c (.bool false)))])
 .ret) .skip))
 (.seq (.seq (rg [oo 34 (.faddr 5 5 (.t 2)),
 oo 35 (.load false 1 (.t 34)),
 oo 36 (.faddr 5 5 (.t 3)),
 oo 37 (.load false 1 (.t 36)),
 oo 38 (.bin .neq (.t 35) (.t 37))])
 (.cond (.t 38) (.seq (rg [oo 4 (.mv (.c (.bool false)))])
 .ret) .skip))
 (.seq (rg [oo 4 (.mv (.c (.bool true)))])
 .ret))))))))
structure G_f38 (E:Env):Prop where
 is:Is E 125 2 f38_ac [(4,none)]
 c_f45:G_f45 E
 c_f47:G_f47 E
 c_f42:G_f42 E
 c_f52:G_f52 E
theorem f38_E {E:Env} (h:G_f38 E) (a0 a1:U):E 125 [a0,a1] =
 U.noTup a0 fun x1=>U.noTup a1 fun x2=>U.asAgg x1 fun us3=>if 0 = sizes (us3.take 0) then (us3[0]?).bind fun e4=>U.asVar false 1 e4 fun e5=>U.asAgg x2 fun us6=>if 0 = sizes (us6.take 0) then (us6[0]?).bind fun e7=>U.asVar false 1 e7 fun e8=>(U.eqv 0 e5 e8).bind fun q9=>U.asBool (.bool (!q9))
 (some (.bool false))
 (U.asAgg x1 fun us10=>if 1 = sizes (us10.take 1) then (us10[1]?).bind fun e11=>U.asVar true 1 e11 fun e12=>U.asAgg x2 fun us13=>if 1 = sizes (us13.take 1) then (us13[1]?).bind fun e14=>U.asVar true 1 e14 fun e15=>(E 97 [e12,e15]).bind fun t16=>(U.un .not t16).bind fun t17=>U.asBool t17
 (some (.bool false))
 (U.asAgg x1 fun us18=>if 2 = sizes (us18.take 2) then (us18[2]?).bind fun e19=>U.asVar false 1 e19 fun e20=>U.asAgg x2 fun us21=>if 2 = sizes (us21.take 2) then (us21[2]?).bind fun e22=>U.asVar false 1 e22 fun e23=>(E 176 [e20,e23]).bind fun t24=>(U.un .not t24).bind fun t25=>U.asBool t25
 (some (.bool false))
 (U.asAgg x1 fun us26=>if 3 = sizes (us26.take 3) then (us26[3]?).bind fun e27=>U.asVar false 1 e27 fun e28=>U.asAgg x2 fun us29=>if 3 = sizes (us29.take 3) then (us29[3]?).bind fun e30=>U.asVar false 1 e30 fun e31=>(E 175 [e28,e31]).bind fun t32=>(U.un .not t32).bind fun t33=>U.asBool t33
 (some (.bool false))
 (U.asAgg x1 fun us34=>if 4 = sizes (us34.take 4) then (us34[4]?).bind fun e35=>U.asVar false 1 e35 fun e36=>U.asAgg x2 fun us37=>if 4 = sizes (us37.take 4) then (us37[4]?).bind fun e38=>U.asVar false 1 e38 fun e39=>(E 174 [e36,e39]).bind fun t40=>(U.un .not t40).bind fun t41=>U.asBool t41
 (some (.bool false))
 (U.asAgg x1 fun us42=>if 5 = sizes (us42.take 5) then (us42[5]?).bind fun e43=>U.asVar false 1 e43 fun e44=>U.asAgg x2 fun us45=>if 5 = sizes (us45.take 5) then (us45[5]?).bind fun e46=>U.asVar false 1 e46 fun e47=>(U.bin .neq e44 e47).bind fun t48=>U.asBool t48
 (some (.bool false))
 (some (.bool true)) else none else none) else none else none) else none else none) else none else none) else none else none) else none else none:=(h.is _ rfl).trans ((Qa rfl).trans (by kernel_rfl))
def f56_b0:AC :=
 (.seq (.seq (rg [oo 6 (.mv (.t 5)),
 oo 7 (.mv (.t 0)),
 oo 8 (.len false (.t 7)),
 oo 9 (.bin .lss (.t 6) (.t 8))])
 (.cond (.t 9) .skip (.exit 0)))
 (.seq (.block 1 (.seq (.seq (rg [oo 12 (.mv (.t 0)),
 oo 13 (.mv (.t 5)),
 oo 14 (.iaddr 2 (.t 12) (.t 13)),
 oo 15 (.faddr 0 0 (.t 14)),
 oo 16 (.load false 1 (.t 15)),
 oo 17 (.mv (.t 1)),
 oo 18 (.bin .neq (.t 16) (.t 17))])
 (.cond (.t 18) (.seq (rg [oo 4 (.mv (ci (-1)))])
 .ret) .skip))
 (.seq (rg [oo 19 (.mv (.t 1)),
 oo 20 (.bin .add (.t 19) (ci 1)),
 oo 1 (.mv (.t 20))])
 (.seq (.seq (rg [oo 21 (.mv (.t 0)),
 oo 22 (.mv (.t 5)),
 oo 23 (.iaddr 2 (.t 21) (.t 22)),
 oo 24 (.faddr 1 1 (.t 23)),
 oo 25 (.load false 1 (.t 24)),
 oo 26 (.mv (.t 1)),
 oo 27 (.bin .neq (.t 25) (.t 26))])
 (.cond (.t 27) (.seq (rg [oo 4 (.mv (ci (-1)))])
 .ret) .skip))
 (rg [oo 28 (.mv (.t 1)),
 oo 29 (.bin .add (.t 28) (ci 1)),
 oo 1 (.mv (.t 29))])))))
 (rg [oo 10 (.mv (.t 5)),
 oo 11 (.bin .add (.t 10) (ci 1)),
 oo 5 (.mv (.t 11))])))
def f56_r0:AC :=
 (.seq (rg [oo 30 (.mv (.t 1)),
 oo 4 (.mv (.t 30))])
 .ret)
def f56_ac:AC :=
 (.seq (rg [oo 4 (.mv (ci 0))])
 (.seq (.seq (rg [oo 5 (.mv (ci 0))])
 (.block 0 (.loop ⟨[0,1,5],[],[]⟩ f56_b0)))
 f56_r0))
noncomputable def f56_l0 (E:Env) (x0:U) (x1:U) (x5:U):Option U:=loopK (roundOf E ⟨[0,1,5],[],[]⟩ f56_b0 (blockK 0 (seqK (fun s=>exec E f56_r0 s (finish [(4,none)])) (finish [(4,none)])))) ([.val x0,.val x1,.val x5],[])
theorem Qmg (E:Env) (x0:U) (x1:U) (x5:U):f56_l0 E x0 x1 x5 =
 (U.lenOf false x0).bind fun n1=>(U.bin .lss x5 (.int .i64 (n1:Int))).bind fun t2=>U.asBool t2
 (U.asInt x5 fun n3=>U.elemAt 2 x0 n3 fun e4=>U.fieldAt 0 0 e4 fun f5=>U.asVar false 1 f5 fun e6=>(U.bin .neq e6 x1).bind fun t7=>U.asBool t7
 (some (.int .i64 (-1)))
 ((U.bin .add x1 (.int .i64 1)).bind fun t8=>U.asInt x5 fun n9=>U.elemAt 2 x0 n9 fun e10=>U.fieldAt 1 1 e10 fun f11=>U.asVar false 1 f11 fun e12=>(U.bin .neq e12 t8).bind fun t13=>U.asBool t13
 (some (.int .i64 (-1)))
 ((U.bin .add t8 (.int .i64 1)).bind fun t14=>(U.bin .add x5 (.int .i64 1)).bind fun t15=>f56_l0 E x0 t14 t15)))
 (some x1):=(Qf E _ _ _ _).trans (by kernel_rfl)
structure G_f56 (E:Env):Prop where
 is:Is E 92 2 f56_ac [(4,none)]
theorem f56_E {E:Env} (h:G_f56 E) (a0 a1:U):E 92 [a0,a1] =
 f56_l0 E a0 a1 (.int .i64 0):=(h.is _ rfl).trans ((Qa rfl).trans (by kernel_rfl))
def f57_b0:AC :=
 (.seq (.seq (rg [oo 6 (.mv (.t 5)),
 oo 7 (.mv (.t 0)),
 oo 8 (.len false (.t 7)),
 oo 9 (.bin .lss (.t 6) (.t 8))])
 (.cond (.t 9) .skip (.exit 0)))
 (.seq (.block 1 (.seq (.seq (rg [oo 12 (.mv (.t 0)),
 oo 13 (.mv (.t 5)),
 oo 14 (.iaddr 2 (.t 12) (.t 13)),
 oo 15 (.faddr 0 0 (.t 14)),
 oo 16 (.load false 1 (.t 15)),
 oo 17 (.mv (.t 1)),
 oo 18 (.bin .neq (.t 16) (.t 17))])
 (.cond (.t 18) (.seq (rg [oo 4 (.mv (ci (-1)))])
 .ret) .skip))
 (.seq (rg [oo 19 (.mv (.t 1)),
 oo 20 (.bin .add (.t 19) (ci 1)),
 oo 1 (.mv (.t 20))])
 (.seq (.seq (rg [oo 21 (.mv (.t 0)),
 oo 22 (.mv (.t 5)),
 oo 23 (.iaddr 2 (.t 21) (.t 22)),
 oo 24 (.faddr 1 1 (.t 23)),
 oo 25 (.load false 1 (.t 24)),
 oo 26 (.mv (.t 1)),
 oo 27 (.bin .neq (.t 25) (.t 26))])
 (.cond (.t 27) (.seq (rg [oo 4 (.mv (ci (-1)))])
 .ret) .skip))
 (rg [oo 28 (.mv (.t 1)),
 oo 29 (.bin .add (.t 28) (ci 1)),
 oo 1 (.mv (.t 29))])))))
 (rg [oo 10 (.mv (.t 5)),
 oo 11 (.bin .add (.t 10) (ci 1)),
 oo 5 (.mv (.t 11))])))
def f57_r0:AC :=
 (.seq (rg [oo 30 (.mv (.t 1)),
 oo 4 (.mv (.t 30))])
 .ret)
def f57_ac:AC :=
 (.seq (rg [oo 4 (.mv (ci 0))])
 (.seq (.seq (rg [oo 5 (.mv (ci 0))])
 (.block 0 (.loop ⟨[0,1,5],[],[]⟩ f57_b0)))
 f57_r0))
noncomputable def f57_l0 (E:Env) (x0:U) (x1:U) (x5:U):Option U:=loopK (roundOf E ⟨[0,1,5],[],[]⟩ f57_b0 (blockK 0 (seqK (fun s=>exec E f57_r0 s (finish [(4,none)])) (finish [(4,none)])))) ([.val x0,.val x1,.val x5],[])
theorem Qmi (E:Env) (x0:U) (x1:U) (x5:U):f57_l0 E x0 x1 x5 =
 (U.lenOf false x0).bind fun n1=>(U.bin .lss x5 (.int .i64 (n1:Int))).bind fun t2=>U.asBool t2
 (U.asInt x5 fun n3=>U.elemAt 2 x0 n3 fun e4=>U.fieldAt 0 0 e4 fun f5=>U.asVar false 1 f5 fun e6=>(U.bin .neq e6 x1).bind fun t7=>U.asBool t7
 (some (.int .i64 (-1)))
 ((U.bin .add x1 (.int .i64 1)).bind fun t8=>U.asInt x5 fun n9=>U.elemAt 2 x0 n9 fun e10=>U.fieldAt 1 1 e10 fun f11=>U.asVar false 1 f11 fun e12=>(U.bin .neq e12 t8).bind fun t13=>U.asBool t13
 (some (.int .i64 (-1)))
 ((U.bin .add t8 (.int .i64 1)).bind fun t14=>(U.bin .add x5 (.int .i64 1)).bind fun t15=>f57_l0 E x0 t14 t15)))
 (some x1):=(Qf E _ _ _ _).trans (by kernel_rfl)
structure G_f57 (E:Env):Prop where
 is:Is E 235 2 f57_ac [(4,none)]
theorem f57_E {E:Env} (h:G_f57 E) (a0 a1:U):E 235 [a0,a1] =
 f57_l0 E a0 a1 (.int .i64 0):=(h.is _ rfl).trans ((Qa rfl).trans (by kernel_rfl))
def f55_b0:AC :=
 (.seq (.seq (rg [oo 6 (.mv (.t 5)),
 oo 7 (.mv (.t 0)),
 oo 8 (.len false (.t 7)),
 oo 9 (.bin .lss (.t 6) (.t 8))])
 (.cond (.t 9) .skip (.exit 0)))
 (.seq (.block 1 (.seq (.seq (rg [oo 12 (.mv (.t 0)),
 oo 13 (.mv (.t 5)),
 oo 14 (.iaddr 4 (.t 12) (.t 13)),
 oo 15 (.faddr 0 0 (.t 14)),
 oo 16 (.load false 1 (.t 15)),
 oo 17 (.mv (.t 1)),
 oo 18 (.bin .neq (.t 16) (.t 17))])
 (.cond (.t 18) (.seq (rg [oo 4 (.mv (ci (-1)))])
 .ret) .skip))
 (.seq (rg [oo 19 (.mv (.t 1)),
 oo 20 (.bin .add (.t 19) (ci 1)),
 oo 1 (.mv (.t 20))])
 (.seq (.seq (rg [oo 21 (.mv (.t 0)),
 oo 22 (.mv (.t 5)),
 oo 23 (.iaddr 4 (.t 21) (.t 22)),
 oo 24 (.faddr 1 1 (.t 23)),
 oo 25 (.load false 1 (.t 24)),
 oo 26 (.mv (.t 1)),
 oo 27 (.bin .neq (.t 25) (.t 26))])
 (.cond (.t 27) (.seq (rg [oo 4 (.mv (ci (-1)))])
 .ret) .skip))
 (.seq (rg [oo 28 (.mv (.t 1)),
 oo 29 (.bin .add (.t 28) (ci 1)),
 oo 1 (.mv (.t 29))])
 (.seq (rg [oo 30 (.mv (.t 0)),
 oo 31 (.mv (.t 5)),
 oo 32 (.iaddr 4 (.t 30) (.t 31)),
 oo 33 (.faddr 2 2 (.t 32)),
 oo 34 (.load false 1 (.t 33)),
 oo 35 (.mv (.t 1)),
 oo 36 (.call false 92 [(.t 34),(.t 35)]),
 oo 1 (.mv (.t 36))])
 (.seq (.seq (rg [oo 37 (.mv (.t 1)),
 oo 38 (.bin .lss (.t 37) (ci 0))])
 (.cond (.t 38) (.seq (rg [oo 4 (.mv (ci (-1)))])
 .ret) .skip))
 (.seq (rg [oo 39 (.mv (.t 0)),
 oo 40 (.mv (.t 5)),
 oo 41 (.iaddr 4 (.t 39) (.t 40)),
 oo 42 (.faddr 3 3 (.t 41)),
 oo 43 (.load false 1 (.t 42)),
 oo 44 (.mv (.t 1)),
 oo 45 (.call false 235 [(.t 43),(.t 44)]),
 oo 1 (.mv (.t 45))])
 (.seq (rg [oo 46 (.mv (.t 1)),
 oo 47 (.bin .lss (.t 46) (ci 0))])
 (.cond (.t 47) (.seq (rg [oo 4 (.mv (ci (-1)))])
 .ret) .skip))))))))))
 (rg [oo 10 (.mv (.t 5)),
 oo 11 (.bin .add (.t 10) (ci 1)),
 oo 5 (.mv (.t 11))])))
def f55_r0:AC :=
 (.seq (rg [oo 48 (.mv (.t 1)),
 oo 4 (.mv (.t 48))])
 .ret)
def f55_ac:AC :=
 (.seq (rg [oo 4 (.mv (ci 0))])
 (.seq (.seq (rg [oo 5 (.mv (ci 0))])
 (.block 0 (.loop ⟨[0,1,5],[],[]⟩ f55_b0)))
 f55_r0))
noncomputable def f55_l0 (E:Env) (x0:U) (x1:U) (x5:U):Option U:=loopK (roundOf E ⟨[0,1,5],[],[]⟩ f55_b0 (blockK 0 (seqK (fun s=>exec E f55_r0 s (finish [(4,none)])) (finish [(4,none)])))) ([.val x0,.val x1,.val x5],[])
theorem Qme (E:Env) (x0:U) (x1:U) (x5:U):f55_l0 E x0 x1 x5 =
 (U.lenOf false x0).bind fun n1=>(U.bin .lss x5 (.int .i64 (n1:Int))).bind fun t2=>U.asBool t2
 (U.asInt x5 fun n3=>U.elemAt 4 x0 n3 fun e4=>U.fieldAt 0 0 e4 fun f5=>U.asVar false 1 f5 fun e6=>(U.bin .neq e6 x1).bind fun t7=>U.asBool t7
 (some (.int .i64 (-1)))
 ((U.bin .add x1 (.int .i64 1)).bind fun t8=>U.asInt x5 fun n9=>U.elemAt 4 x0 n9 fun e10=>U.fieldAt 1 1 e10 fun f11=>U.asVar false 1 f11 fun e12=>(U.bin .neq e12 t8).bind fun t13=>U.asBool t13
 (some (.int .i64 (-1)))
 ((U.bin .add t8 (.int .i64 1)).bind fun t14=>U.asInt x5 fun n15=>U.elemAt 4 x0 n15 fun e16=>U.fieldAt 2 2 e16 fun f17=>U.asVar false 1 f17 fun e18=>(E 92 [e18,t14]).bind fun t19=>(U.bin .lss t19 (.int .i64 0)).bind fun t20=>U.asBool t20
 (some (.int .i64 (-1)))
 (U.asInt x5 fun n21=>U.elemAt 4 x0 n21 fun e22=>U.fieldAt 3 3 e22 fun f23=>U.asVar false 1 f23 fun e24=>(E 235 [e24,t19]).bind fun t25=>(U.bin .lss t25 (.int .i64 0)).bind fun t26=>U.asBool t26
 (some (.int .i64 (-1)))
 ((U.bin .add x5 (.int .i64 1)).bind fun t27=>f55_l0 E x0 t25 t27)))))
 (some x1):=(Qf E _ _ _ _).trans (by kernel_rfl)
structure G_f55 (E:Env):Prop where
 is:Is E 285 2 f55_ac [(4,none)]
 c_f56:G_f56 E
 c_f57:G_f57 E
theorem f55_E {E:Env} (h:G_f55 E) (a0 a1:U):E 285 [a0,a1] =
 f55_l0 E a0 a1 (.int .i64 0):=(h.is _ rfl).trans ((Qa rfl).trans (by kernel_rfl))
def f100_b0:AC :=
 (.seq (.seq (rg [oo 8 (.mv (.t 4)),
 oo 9 (.mv (.t 0)),
 oo 10 (.len false (.t 9)),
 oo 11 (.bin .lss (.t 8) (.t 10))])
 (.cond (.t 11) .skip (.exit 0)))
 (.seq (.block 1 (rg [oo 14 (.mv (.t 3)),
 oo 15 (.mv (.t 4)),
 oo 16 (.mv (.t 0)),
 oo 17 (.mv (.t 4)),
 oo 18 (.iaddr 5 (.t 16) (.t 17)),
 oo 19 (.load true 5 (.t 18)),
 oo 20 (.call false 109 [(.t 19)]),
 oo 21 (.iaddr 5 (.t 14) (.t 15)),
 ⟨none,.store 5 (.t 21) (.t 20),none⟩]))
 (rg [oo 12 (.mv (.t 4)),
 oo 13 (.bin .add (.t 12) (ci 1)),
 oo 4 (.mv (.t 13))])))
def f100_r0:AC :=
 (.seq (rg [oo 22 (.mv (.t 3)),
 oo 2 (.mv (.t 22))])
 .ret)
def f100_ac:AC :=
 (.seq (rg [oo 2 (.mv (.c (.nsl 5)))])
 (.seq (rg [oo 5 (.mv (.t 0)),
 oo 6 (.len false (.t 5)),
 oo 7 (.mkslice 7 5 40 (.agg [(.int .i64 0),(.int .i64 0),(.int .i64 0),(.int .i64 0),(.int .i64 0)]) (.t 6) (.t 6)),
 oo 3 (.mv (.t 7))])
 (.seq (.seq (rg [oo 4 (.mv (ci 0))])
 (.block 0 (.loop ⟨[0,4],[(3,5,false)],[]⟩ f100_b0)))
 f100_r0)))
noncomputable def f100_l0 (E:Env) (x0:U) (x4:U) (c3:List U):Option U:=loopK (roundOf E ⟨[0,4],[(3,5,false)],[]⟩ f100_b0 (blockK 0 (seqK (fun s=>exec E f100_r0 s (finishF [(2,none)])) (finishF [(2,none)])))) ([.val x0,.val x4],[.vir (.asl 5 c3)])
theorem Qju (E:Env) (x0:U) (x4:U) (c3:List U):f100_l0 E x0 x4 c3 =
 (U.lenOf false x0).bind fun n2=>(U.bin .lss x4 (.int .i64 (n2:Int))).bind fun t3=>U.asBool t3
 (U.asInt x4 fun n4=>U.elemAt 5 x0 n4 fun e5=>U.asVar true 5 e5 fun e6=>(E 109 [e6]).bind fun t7=>U.asInt x4 fun n8=>if 5 = 5 ∧ 0 ≤ n8 ∧ n8 < ((c3).length:Int) then if storable (.val t7) = true ∧ t7.size = 5 then (c3[(n8:Int).toNat]?).bind fun e9=>if e9.size = 5 then (U.bin .add x4 (.int .i64 1)).bind fun t10=>f100_l0 E x0 t10 (c3.set (n8:Int).toNat t7) else none else none else none)
 (if U.flat.flats c3 = true then some (.sl 5 c3) else none):=(Qf E _ _ _ _).trans (by kernel_rfl)
structure G_f100 (E:Env):Prop where
 is:Is E 100108 1 f100_ac [(2,none)]
 c_f96:G_f96 E
theorem Qtb {E:Env} (h:G_f100 E) (a0:U):E 100108 [a0] =
 (U.lenOf false a0).bind fun n1=>if 0 ≤ (n1:Int) ∧ (n1:Int) ≤ (n1:Int) ∧ (n1:Int) * 40 ≤ 140737488355328 ∧ ((.agg [(.int .i64 0),(.int .i64 0),(.int .i64 0),(.int .i64 0),(.int .i64 0)]):U).size = 5 then f100_l0 E a0 (.int .i64 0) (List.replicate ((n1:Int):Int).toNat (.agg [(.int .i64 0),(.int .i64 0),(.int .i64 0),(.int .i64 0),(.int .i64 0)])) else none:=(h.is _ rfl).trans ((Qah rfl).trans (by kernel_rfl))
def f99_b0:AC :=
 (.seq (.seq (rg [oo 8 (.mv (.t 4)),
 oo 9 (.mv (.t 0)),
 oo 10 (.len false (.t 9)),
 oo 11 (.bin .lss (.t 8) (.t 10))])
 (.cond (.t 11) .skip (.exit 0)))
 (.seq (.block 1 (rg [oo 14 (.mv (.t 3)),
 oo 15 (.mv (.t 4)),
 oo 16 (.mv (.t 0)),
 oo 17 (.mv (.t 4)),
 oo 18 (.iaddr 1 (.t 16) (.t 17)),
 oo 19 (.load false 1 (.t 18)),
 oo 20 (.callF 20 false [(.sl 5)] 108 [(.t 19)]),
 oo 21 (.iaddr 1 (.t 14) (.t 15)),
 ⟨none,.storeE 1 (.t 21) (.t 20),none⟩]))
 (rg [oo 12 (.mv (.t 4)),
 oo 13 (.bin .add (.t 12) (ci 1)),
 oo 4 (.mv (.t 13))])))
def f99_r0:AC :=
 (.seq (rg [oo 22 (.mv (.t 3)),
 oo 2 (.mv (.t 22))])
 .ret)
def f99_ac:AC :=
 (.seq (rg [oo 2 (.mv (.c (.nsl 1)))])
 (.seq (rg [oo 5 (.mv (.t 0)),
 oo 6 (.len false (.t 5)),
 oo 7 (.mkslice 7 1 24 (.nsl 5) (.t 6) (.t 6)),
 oo 3 (.mv (.t 7))])
 (.seq (.seq (rg [oo 4 (.mv (ci 0))])
 (.block 0 (.loop ⟨[0,4],[(3,1,true)],[]⟩ f99_b0)))
 f99_r0)))
noncomputable def f99_l0 (E:Env) (x0:U) (x4:U) (c3:List U):Option U:=loopK (roundOf E ⟨[0,4],[(3,1,true)],[]⟩ f99_b0 (blockK 0 (seqK (fun s=>exec E f99_r0 s (finishF [(2,none)])) (finishF [(2,none)])))) ([.val x0,.val x4],[.vir (.own (.sl 1 c3))])
theorem Qns (E:Env) (x0:U) (x4:U) (c3:List U):f99_l0 E x0 x4 c3 =
 (U.lenOf false x0).bind fun n2=>(U.bin .lss x4 (.int .i64 (n2:Int))).bind fun t3=>U.asBool t3
 (U.asInt x4 fun n4=>U.elemAt 1 x0 n4 fun e5=>U.asVar false 1 e5 fun e6=>(E 100108 [e6]).bind fun t7=>U.noTup t7 fun x8=>U.asSlK 5 x8 fun us9=>U.asInt x4 fun n10=>if 1 = 1 ∧ 0 ≤ n10 ∧ n10 < (c3.length:Int) then (c3[(n10:Int).toNat]?).bind fun e11=>if e11.size = 1 then (U.bin .add x4 (.int .i64 1)).bind fun t12=>f99_l0 E x0 t12 (c3.set (n10:Int).toNat (.sl 5 us9)) else none else none)
 (some (.sl 1 c3)):=(Qf E _ _ _ _).trans (by kernel_rfl)
structure G_f99 (E:Env):Prop where
 is:Is E 100107 1 f99_ac [(2,none)]
 c_f100:G_f100 E
theorem f99_E {E:Env} (h:G_f99 E) (a0:U):E 100107 [a0] =
 (U.lenOf false a0).bind fun n1=>if 0 ≤ (n1:Int) ∧ (n1:Int) ≤ (n1:Int) ∧ (n1:Int) * 24 ≤ 140737488355328 ∧ ((.nsl 5):U).size = 1 then if U.flat.flats (List.replicate ((n1:Int):Int).toNat (.nsl 5)) = true then f99_l0 E a0 (.int .i64 0) (List.replicate ((n1:Int):Int).toNat (.nsl 5)) else none else none:=(h.is _ rfl).trans ((Qah rfl).trans (by kernel_rfl))
def f91_ac:AC :=
 (.seq (rg [oo 1 (.box false 1 (.t 0)),
 oo 2 (.alloc 2 (.agg [(.nsl 1)]))])
 (.seq (rg [oo 3 (.alloc 3 (.agg [(.nsl 1)]))])
 (.seq (rg [oo 4 (.faddr 0 0 (.t 1)),
 oo 5 (.load false 1 (.t 4)),
 oo 6 (.callF 6 false [(.sl 1)] 107 [(.t 5)]),
 oo 7 (.faddr 0 0 (.t 3)),
 ⟨none,.storeM 3000 1 (.t 7) (.t 6),none⟩])
 (.seq (rg [oo 8 (.loadO (.agg [(.sl 1)]) (.t 3)),
 ⟨none,.storeM 3001 1 (.t 2) (.t 8),none⟩])
 .ret))))
structure G_f91 (E:Env):Prop where
 is:Is E 100093 1 f91_ac [(2,some (true,1))]
 c_f99:G_f99 E
theorem f91_E {E:Env} (h:G_f91 E) (a0:U):E 100093 [a0] =
 U.noTup a0 fun x1=>U.asAgg x1 fun us2=>if 0 = sizes (us2.take 0) then (us2[0]?).bind fun e3=>U.asVar false 1 e3 fun e4=>(E 100107 [e4]).bind fun t5=>U.noTup t5 fun x6=>U.asSlK 1 x6 fun us7=>some (.agg [(.sl 1 us7)]) else none:=(h.is _ rfl).trans ((Qah rfl).trans (by kernel_rfl))
def f89_b0:AC :=
 (.seq (.seq (rg [oo 8 (.mv (.t 4)),
 oo 9 (.mv (.t 0)),
 oo 10 (.len false (.t 9)),
 oo 11 (.bin .lss (.t 8) (.t 10))])
 (.cond (.t 11) .skip (.exit 0)))
 (.seq (.block 1 (rg [oo 14 (.mv (.t 3)),
 oo 15 (.mv (.t 4)),
 oo 16 (.mv (.t 0)),
 oo 17 (.mv (.t 4)),
 oo 18 (.iaddr 2 (.t 16) (.t 17)),
 oo 19 (.load true 2 (.t 18)),
 oo 20 (.call false 29 [(.t 19)]),
 oo 21 (.iaddr 2 (.t 14) (.t 15)),
 ⟨none,.store 2 (.t 21) (.t 20),none⟩]))
 (rg [oo 12 (.mv (.t 4)),
 oo 13 (.bin .add (.t 12) (ci 1)),
 oo 4 (.mv (.t 13))])))
def f89_r0:AC :=
 (.seq (rg [oo 22 (.mv (.t 3)),
 oo 2 (.mv (.t 22))])
 .ret)
def f89_ac:AC :=
 (.seq (rg [oo 2 (.mv (.c (.nsl 2)))])
 (.seq (rg [oo 5 (.mv (.t 0)),
 oo 6 (.len false (.t 5)),
 oo 7 (.mkslice 7 2 16 (.agg [(.int .i64 0),(.int .i64 0)]) (.t 6) (.t 6)),
 oo 3 (.mv (.t 7))])
 (.seq (.seq (rg [oo 4 (.mv (ci 0))])
 (.block 0 (.loop ⟨[0,4],[(3,2,false)],[]⟩ f89_b0)))
 f89_r0)))
noncomputable def f89_l0 (E:Env) (x0:U) (x4:U) (c3:List U):Option U:=loopK (roundOf E ⟨[0,4],[(3,2,false)],[]⟩ f89_b0 (blockK 0 (seqK (fun s=>exec E f89_r0 s (finishF [(2,none)])) (finishF [(2,none)])))) ([.val x0,.val x4],[.vir (.asl 2 c3)])
theorem Qnh (E:Env) (x0:U) (x4:U) (c3:List U):f89_l0 E x0 x4 c3 =
 (U.lenOf false x0).bind fun n2=>(U.bin .lss x4 (.int .i64 (n2:Int))).bind fun t3=>U.asBool t3
 (U.asInt x4 fun n4=>U.elemAt 2 x0 n4 fun e5=>U.asVar true 2 e5 fun e6=>(E 29 [e6]).bind fun t7=>U.asInt x4 fun n8=>if 2 = 2 ∧ 0 ≤ n8 ∧ n8 < ((c3).length:Int) then if storable (.val t7) = true ∧ t7.size = 2 then (c3[(n8:Int).toNat]?).bind fun e9=>if e9.size = 2 then (U.bin .add x4 (.int .i64 1)).bind fun t10=>f89_l0 E x0 t10 (c3.set (n8:Int).toNat t7) else none else none else none)
 (if U.flat.flats c3 = true then some (.sl 2 c3) else none):=(Qf E _ _ _ _).trans (by kernel_rfl)
structure G_f89 (E:Env):Prop where
 is:Is E 100028 1 f89_ac [(2,none)]
 c_f87:G_f87 E
theorem f89_E {E:Env} (h:G_f89 E) (a0:U):E 100028 [a0] =
 (U.lenOf false a0).bind fun n1=>if 0 ≤ (n1:Int) ∧ (n1:Int) ≤ (n1:Int) ∧ (n1:Int) * 16 ≤ 140737488355328 ∧ ((.agg [(.int .i64 0),(.int .i64 0)]):U).size = 2 then f89_l0 E a0 (.int .i64 0) (List.replicate ((n1:Int):Int).toNat (.agg [(.int .i64 0),(.int .i64 0)])) else none:=(h.is _ rfl).trans ((Qah rfl).trans (by kernel_rfl))
def f106_b0:AC :=
 (.seq (.seq (rg [oo 8 (.mv (.t 4)),
 oo 9 (.mv (.t 0)),
 oo 10 (.len false (.t 9)),
 oo 11 (.bin .lss (.t 8) (.t 10))])
 (.cond (.t 11) .skip (.exit 0)))
 (.seq (.block 1 (rg [oo 14 (.mv (.t 3)),
 oo 15 (.mv (.t 4)),
 oo 16 (.mv (.t 0)),
 oo 17 (.mv (.t 4)),
 oo 18 (.iaddr 2 (.t 16) (.t 17)),
 oo 19 (.load true 2 (.t 18)),
 oo 20 (.call false 30 [(.t 19)]),
 oo 21 (.iaddr 2 (.t 14) (.t 15)),
 ⟨none,.store 2 (.t 21) (.t 20),none⟩]))
 (rg [oo 12 (.mv (.t 4)),
 oo 13 (.bin .add (.t 12) (ci 1)),
 oo 4 (.mv (.t 13))])))
def f106_r0:AC :=
 (.seq (rg [oo 22 (.mv (.t 3)),
 oo 2 (.mv (.t 22))])
 .ret)
def f106_ac:AC :=
 (.seq (rg [oo 2 (.mv (.c (.nsl 2)))])
 (.seq (rg [oo 5 (.mv (.t 0)),
 oo 6 (.len false (.t 5)),
 oo 7 (.mkslice 7 2 16 (.agg [(.int .i64 0),(.int .i64 0)]) (.t 6) (.t 6)),
 oo 3 (.mv (.t 7))])
 (.seq (.seq (rg [oo 4 (.mv (ci 0))])
 (.block 0 (.loop ⟨[0,4],[(3,2,false)],[]⟩ f106_b0)))
 f106_r0)))
noncomputable def f106_l0 (E:Env) (x0:U) (x4:U) (c3:List U):Option U:=loopK (roundOf E ⟨[0,4],[(3,2,false)],[]⟩ f106_b0 (blockK 0 (seqK (fun s=>exec E f106_r0 s (finishF [(2,none)])) (finishF [(2,none)])))) ([.val x0,.val x4],[.vir (.asl 2 c3)])
theorem Qj4 (E:Env) (x0:U) (x4:U) (c3:List U):f106_l0 E x0 x4 c3 =
 (U.lenOf false x0).bind fun n2=>(U.bin .lss x4 (.int .i64 (n2:Int))).bind fun t3=>U.asBool t3
 (U.asInt x4 fun n4=>U.elemAt 2 x0 n4 fun e5=>U.asVar true 2 e5 fun e6=>(E 30 [e6]).bind fun t7=>U.asInt x4 fun n8=>if 2 = 2 ∧ 0 ≤ n8 ∧ n8 < ((c3).length:Int) then if storable (.val t7) = true ∧ t7.size = 2 then (c3[(n8:Int).toNat]?).bind fun e9=>if e9.size = 2 then (U.bin .add x4 (.int .i64 1)).bind fun t10=>f106_l0 E x0 t10 (c3.set (n8:Int).toNat t7) else none else none else none)
 (if U.flat.flats c3 = true then some (.sl 2 c3) else none):=(Qf E _ _ _ _).trans (by kernel_rfl)
structure G_f106 (E:Env):Prop where
 is:Is E 100027 1 f106_ac [(2,none)]
 c_f104:G_f104 E
theorem Qtq {E:Env} (h:G_f106 E) (a0:U):E 100027 [a0] =
 (U.lenOf false a0).bind fun n1=>if 0 ≤ (n1:Int) ∧ (n1:Int) ≤ (n1:Int) ∧ (n1:Int) * 16 ≤ 140737488355328 ∧ ((.agg [(.int .i64 0),(.int .i64 0)]):U).size = 2 then f106_l0 E a0 (.int .i64 0) (List.replicate ((n1:Int):Int).toNat (.agg [(.int .i64 0),(.int .i64 0)])) else none:=(h.is _ rfl).trans ((Qah rfl).trans (by kernel_rfl))
def f95_ac:AC :=
 (.seq (rg [oo 1 (.box false 1 (.t 0)),
 oo 2 (.alloc 2 (.agg [(.int .i64 0),(.int .i64 0),(.int .i64 0),(.int .i64 0),(.int .i64 0),(.int .i64 0),(.int .i64 0),(.nsl 2),(.nsl 2)]))])
 (.seq (rg [oo 3 (.alloc 3 (.agg [(.int .i64 0),(.int .i64 0),(.int .i64 0),(.int .i64 0),(.int .i64 0),(.int .i64 0),(.int .i64 0),(.nsl 2),(.nsl 2)]))])
 (.seq (rg [oo 4 (.faddr 0 0 (.t 1)),
 oo 5 (.load false 1 (.t 4)),
 oo 6 (.faddr 0 0 (.t 3)),
 ⟨none,.store 1 (.t 6) (.t 5),none⟩])
 (.seq (rg [oo 7 (.faddr 1 1 (.t 1)),
 oo 8 (.load false 1 (.t 7)),
 oo 9 (.faddr 1 1 (.t 3)),
 ⟨none,.store 1 (.t 9) (.t 8),none⟩])
 (.seq (rg [oo 10 (.faddr 2 2 (.t 1)),
 oo 11 (.load false 1 (.t 10)),
 oo 12 (.faddr 2 2 (.t 3)),
 ⟨none,.store 1 (.t 12) (.t 11),none⟩])
 (.seq (rg [oo 13 (.faddr 3 3 (.t 1)),
 oo 14 (.load false 1 (.t 13)),
 oo 15 (.faddr 3 3 (.t 3)),
 ⟨none,.store 1 (.t 15) (.t 14),none⟩])
 (.seq (rg [oo 16 (.faddr 4 4 (.t 1)),
 oo 17 (.load false 1 (.t 16)),
 oo 18 (.faddr 4 4 (.t 3)),
 ⟨none,.store 1 (.t 18) (.t 17),none⟩])
 (.seq (rg [oo 19 (.faddr 5 5 (.t 1)),
 oo 20 (.load false 1 (.t 19)),
 oo 21 (.faddr 5 5 (.t 3)),
 ⟨none,.store 1 (.t 21) (.t 20),none⟩])
 (.seq (rg [oo 22 (.faddr 6 6 (.t 1)),
 oo 23 (.load false 1 (.t 22)),
 oo 24 (.faddr 6 6 (.t 3)),
 ⟨none,.store 1 (.t 24) (.t 23),none⟩])
 (.seq (rg [oo 25 (.faddr 7 7 (.t 1)),
 oo 26 (.load false 1 (.t 25)),
 oo 27 (.callF 27 false [(.sl 2)] 28 [(.t 26)]),
 oo 28 (.faddr 7 7 (.t 3)),
 ⟨none,.storeM 3000 1 (.t 28) (.t 27),none⟩])
 (.seq (rg [oo 29 (.faddr 8 8 (.t 1)),
 oo 30 (.load false 1 (.t 29)),
 oo 31 (.callF 31 false [(.sl 2)] 27 [(.t 30)]),
 oo 32 (.faddr 8 8 (.t 3)),
 ⟨none,.storeM 3002 1 (.t 32) (.t 31),none⟩])
 (.seq (rg [oo 33 (.loadO (.agg [.int,.int,.int,.int,.int,.int,.int,(.sl 2),(.sl 2)]) (.t 3)),
 ⟨none,.storeM 3001 9 (.t 2) (.t 33),none⟩])
 .ret))))))))))))
structure G_f95 (E:Env):Prop where
 is:Is E 100145 1 f95_ac [(2,some (true,9))]
 c_f89:G_f89 E
 c_f106:G_f106 E
theorem f95_E {E:Env} (h:G_f95 E) (a0:U):E 100145 [a0] =
 U.noTup a0 fun x1=>U.asAgg x1 fun us2=>if 0 = sizes (us2.take 0) then (us2[0]?).bind fun e3=>U.asVar false 1 e3 fun e4=>if storable (.val e4) = true ∧ e4.size = 1 then U.asAgg x1 fun us5=>if 1 = sizes (us5.take 1) then (us5[1]?).bind fun e6=>U.asVar false 1 e6 fun e7=>if storable (.val e7) = true ∧ e7.size = 1 then if 1 = sizes [e4] then U.asAgg x1 fun us8=>if 2 = sizes (us8.take 2) then (us8[2]?).bind fun e9=>U.asVar false 1 e9 fun e10=>if storable (.val e10) = true ∧ e10.size = 1 then if 2 = sizes [e4,e7] then U.asAgg x1 fun us11=>if 3 = sizes (us11.take 3) then (us11[3]?).bind fun e12=>U.asVar false 1 e12 fun e13=>if storable (.val e13) = true ∧ e13.size = 1 then if 3 = sizes [e4,e7,e10] then U.asAgg x1 fun us14=>if 4 = sizes (us14.take 4) then (us14[4]?).bind fun e15=>U.asVar false 1 e15 fun e16=>if storable (.val e16) = true ∧ e16.size = 1 then if 4 = sizes [e4,e7,e10,e13] then U.asAgg x1 fun us17=>if 5 = sizes (us17.take 5) then (us17[5]?).bind fun e18=>U.asVar false 1 e18 fun e19=>if storable (.val e19) = true ∧ e19.size = 1 then if 5 = sizes [e4,e7,e10,e13,e16] then U.asAgg x1 fun us20=>if 6 = sizes (us20.take 6) then (us20[6]?).bind fun e21=>U.asVar false 1 e21 fun e22=>if storable (.val e22) = true ∧ e22.size = 1 then if 6 = sizes [e4,e7,e10,e13,e16,e19] then U.asAgg x1 fun us23=>if 7 = sizes (us23.take 7) then (us23[7]?).bind fun e24=>U.asVar false 1 e24 fun e25=>(E 100028 [e25]).bind fun t26=>U.noTup t26 fun x27=>U.asSlK 2 x27 fun us28=>if 7 = sizes [e4,e7,e10,e13,e16,e19,e22] then if 7 = sizes [e4,e7,e10,e13,e16,e19,e22] then if 7 = dsizes [.val e4,.val e7,.val e10,.val e13,.val e16,.val e19,.val e22] then U.asAgg x1 fun us29=>if 8 = sizes (us29.take 8) then (us29[8]?).bind fun e30=>U.asVar false 1 e30 fun e31=>(E 100027 [e31]).bind fun t32=>U.noTup t32 fun x33=>U.asSlK 2 x33 fun us34=>if 8 = dsizes [.val e4,.val e7,.val e10,.val e13,.val e16,.val e19,.val e22,.own (.sl 2 us28)] then if 8 = dsizes [.val e4,.val e7,.val e10,.val e13,.val e16,.val e19,.val e22,.own (.sl 2 us28)] then if 8 = dsizes [.val e4,.val e7,.val e10,.val e13,.val e16,.val e19,.val e22,.own (.sl 2 us28)] then U.asInt e4 fun n35=>U.asInt e7 fun n36=>U.asInt e10 fun n37=>U.asInt e13 fun n38=>U.asInt e16 fun n39=>U.asInt e19 fun n40=>U.asInt e22 fun n41=>if 7 = dsizes [.val e4,.val e7,.val e10,.val e13,.val e16,.val e19,.val e22] then if 7 = dsizes [.val e4,.val e7,.val e10,.val e13,.val e16,.val e19,.val e22] then if 8 = dsizes [.val e4,.val e7,.val e10,.val e13,.val e16,.val e19,.val e22,.junk 1] then if 8 = dsizes [.val e4,.val e7,.val e10,.val e13,.val e16,.val e19,.val e22,.junk 1] then some (.agg [(.int .i64 n35),(.int .i64 n36),(.int .i64 n37),(.int .i64 n38),(.int .i64 n39),(.int .i64 n40),(.int .i64 n41),(.sl 2 us28),(.sl 2 us34)]) else none else none else none else none else none else none else none else none else none else none else none else none else none else none else none else none else none else none else none else none else none else none else none else none else none else none else none else none else none else none else none else none:=(h.is _ rfl).trans ((Qah rfl).trans (by kernel_rfl))
def f94_b0:AC :=
 (.seq (.seq (rg [oo 8 (.mv (.t 4)),
 oo 9 (.mv (.t 0)),
 oo 10 (.len false (.t 9)),
 oo 11 (.bin .lss (.t 8) (.t 10))])
 (.cond (.t 11) .skip (.exit 0)))
 (.seq (.block 1 (rg [oo 14 (.mv (.t 3)),
 oo 15 (.mv (.t 4)),
 oo 16 (.mv (.t 0)),
 oo 17 (.mv (.t 4)),
 oo 18 (.iaddr 9 (.t 16) (.t 17)),
 oo 19 (.load true 9 (.t 18)),
 oo 20 (.callF 20 false [(.agg [.int,.int,.int,.int,.int,.int,.int,(.sl 2),(.sl 2)])] 145 [(.t 19)]),
 oo 21 (.iaddr 9 (.t 14) (.t 15)),
 ⟨none,.storeE 9 (.t 21) (.t 20),none⟩]))
 (rg [oo 12 (.mv (.t 4)),
 oo 13 (.bin .add (.t 12) (ci 1)),
 oo 4 (.mv (.t 13))])))
def f94_r0:AC :=
 (.seq (rg [oo 22 (.mv (.t 3)),
 oo 2 (.mv (.t 22))])
 .ret)
def f94_ac:AC :=
 (.seq (rg [oo 2 (.mv (.c (.nsl 9)))])
 (.seq (rg [oo 5 (.mv (.t 0)),
 oo 6 (.len false (.t 5)),
 oo 7 (.mkslice 7 9 104 (.agg [(.int .i64 0),(.int .i64 0),(.int .i64 0),(.int .i64 0),(.int .i64 0),(.int .i64 0),(.int .i64 0),(.nsl 2),(.nsl 2)]) (.t 6) (.t 6)),
 oo 3 (.mv (.t 7))])
 (.seq (.seq (rg [oo 4 (.mv (ci 0))])
 (.block 0 (.loop ⟨[0,4],[(3,9,true)],[]⟩ f94_b0)))
 f94_r0)))
noncomputable def f94_l0 (E:Env) (x0:U) (x4:U) (c3:List U):Option U:=loopK (roundOf E ⟨[0,4],[(3,9,true)],[]⟩ f94_b0 (blockK 0 (seqK (fun s=>exec E f94_r0 s (finishF [(2,none)])) (finishF [(2,none)])))) ([.val x0,.val x4],[.vir (.own (.sl 9 c3))])
theorem Qnl (E:Env) (x0:U) (x4:U) (c3:List U):f94_l0 E x0 x4 c3 =
 (U.lenOf false x0).bind fun n2=>(U.bin .lss x4 (.int .i64 (n2:Int))).bind fun t3=>U.asBool t3
 (U.asInt x4 fun n4=>U.elemAt 9 x0 n4 fun e5=>U.asVar true 9 e5 fun e6=>(E 100145 [e6]).bind fun t7=>U.noTup t7 fun x8=>U.asAgg x8 fun us9=>(match us9 with
 | u10 :: us11=>(U.asInt u10 fun n12=>(match us11 with
 | u13 :: us14=>(U.asInt u13 fun n15=>(match us14 with
 | u16 :: us17=>(U.asInt u16 fun n18=>(match us17 with
 | u19 :: us20=>(U.asInt u19 fun n21=>(match us20 with
 | u22 :: us23=>(U.asInt u22 fun n24=>(match us23 with
 | u25 :: us26=>(U.asInt u25 fun n27=>(match us26 with
 | u28 :: us29=>(U.asInt u28 fun n30=>(match us29 with
 | u31 :: us32=>(U.asSlK 2 u31 fun us33=>(match us32 with
 | u34 :: us35=>(U.asSlK 2 u34 fun us36=>(match us35 with
 | []=>(U.asInt x4 fun n37=>if 9 = 9 ∧ 0 ≤ n37 ∧ n37 < (c3.length:Int) then (c3[(n37:Int).toNat]?).bind fun e38=>if e38.size = 9 then (U.bin .add x4 (.int .i64 1)).bind fun t39=>f94_l0 E x0 t39 (c3.set (n37:Int).toNat (.agg [(.int .i64 n12),(.int .i64 n15),(.int .i64 n18),(.int .i64 n21),(.int .i64 n24),(.int .i64 n27),(.int .i64 n30),(.sl 2 us33),(.sl 2 us36)])) else none else none)
 | _=>none))
 | []=>none))
 | []=>none))
 | []=>none))
 | []=>none))
 | []=>none))
 | []=>none))
 | []=>none))
 | []=>none))
 | []=>none))
 (some (.sl 9 c3)):=(Qf E _ _ _ _).trans (by kernel_rfl)
structure G_f94 (E:Env):Prop where
 is:Is E 100144 1 f94_ac [(2,none)]
 c_f95:G_f95 E
theorem f94_E {E:Env} (h:G_f94 E) (a0:U):E 100144 [a0] =
 (U.lenOf false a0).bind fun n1=>if 0 ≤ (n1:Int) ∧ (n1:Int) ≤ (n1:Int) ∧ (n1:Int) * 104 ≤ 140737488355328 ∧ ((.agg [(.int .i64 0),(.int .i64 0),(.int .i64 0),(.int .i64 0),(.int .i64 0),(.int .i64 0),(.int .i64 0),(.nsl 2),(.nsl 2)]):U).size = 9 then if U.flat.flats (List.replicate ((n1:Int):Int).toNat (.agg [(.int .i64 0),(.int .i64 0),(.int .i64 0),(.int .i64 0),(.int .i64 0),(.int .i64 0),(.int .i64 0),(.nsl 2),(.nsl 2)])) = true then f94_l0 E a0 (.int .i64 0) (List.replicate ((n1:Int):Int).toNat (.agg [(.int .i64 0),(.int .i64 0),(.int .i64 0),(.int .i64 0),(.int .i64 0),(.int .i64 0),(.int .i64 0),(.nsl 2),(.nsl 2)])) else none else none:=(h.is _ rfl).trans ((Qah rfl).trans (by kernel_rfl))
def f86_b0:AC :=
 (.seq (.seq (rg [oo 8 (.mv (.t 4)),
 oo 9 (.mv (.t 0)),
 oo 10 (.len false (.t 9)),
 oo 11 (.bin .lss (.t 8) (.t 10))])
 (.cond (.t 11) .skip (.exit 0)))
 (.seq (.block 1 (rg [oo 14 (.mv (.t 3)),
 oo 15 (.mv (.t 4)),
 oo 16 (.mv (.t 0)),
 oo 17 (.mv (.t 4)),
 oo 18 (.iaddr 2 (.t 16) (.t 17)),
 oo 19 (.load true 2 (.t 18)),
 oo 20 (.call false 146 [(.t 19)]),
 oo 21 (.iaddr 2 (.t 14) (.t 15)),
 ⟨none,.store 2 (.t 21) (.t 20),none⟩]))
 (rg [oo 12 (.mv (.t 4)),
 oo 13 (.bin .add (.t 12) (ci 1)),
 oo 4 (.mv (.t 13))])))
def f86_r0:AC :=
 (.seq (rg [oo 22 (.mv (.t 3)),
 oo 2 (.mv (.t 22))])
 .ret)
def f86_ac:AC :=
 (.seq (rg [oo 2 (.mv (.c (.nsl 2)))])
 (.seq (rg [oo 5 (.mv (.t 0)),
 oo 6 (.len false (.t 5)),
 oo 7 (.mkslice 7 2 16 (.agg [(.int .i64 0),(.int .i64 0)]) (.t 6) (.t 6)),
 oo 3 (.mv (.t 7))])
 (.seq (.seq (rg [oo 4 (.mv (ci 0))])
 (.block 0 (.loop ⟨[0,4],[(3,2,false)],[]⟩ f86_b0)))
 f86_r0)))
noncomputable def f86_l0 (E:Env) (x0:U) (x4:U) (c3:List U):Option U:=loopK (roundOf E ⟨[0,4],[(3,2,false)],[]⟩ f86_b0 (blockK 0 (seqK (fun s=>exec E f86_r0 s (finishF [(2,none)])) (finishF [(2,none)])))) ([.val x0,.val x4],[.vir (.asl 2 c3)])
theorem Qnc (E:Env) (x0:U) (x4:U) (c3:List U):f86_l0 E x0 x4 c3 =
 (U.lenOf false x0).bind fun n2=>(U.bin .lss x4 (.int .i64 (n2:Int))).bind fun t3=>U.asBool t3
 (U.asInt x4 fun n4=>U.elemAt 2 x0 n4 fun e5=>U.asVar true 2 e5 fun e6=>(E 146 [e6]).bind fun t7=>U.asInt x4 fun n8=>if 2 = 2 ∧ 0 ≤ n8 ∧ n8 < ((c3).length:Int) then if storable (.val t7) = true ∧ t7.size = 2 then (c3[(n8:Int).toNat]?).bind fun e9=>if e9.size = 2 then (U.bin .add x4 (.int .i64 1)).bind fun t10=>f86_l0 E x0 t10 (c3.set (n8:Int).toNat t7) else none else none else none)
 (if U.flat.flats c3 = true then some (.sl 2 c3) else none):=(Qf E _ _ _ _).trans (by kernel_rfl)
structure G_f86 (E:Env):Prop where
 is:Is E 100143 1 f86_ac [(2,none)]
 c_f84:G_f84 E
theorem f86_E {E:Env} (h:G_f86 E) (a0:U):E 100143 [a0] =
 (U.lenOf false a0).bind fun n1=>if 0 ≤ (n1:Int) ∧ (n1:Int) ≤ (n1:Int) ∧ (n1:Int) * 16 ≤ 140737488355328 ∧ ((.agg [(.int .i64 0),(.int .i64 0)]):U).size = 2 then f86_l0 E a0 (.int .i64 0) (List.replicate ((n1:Int):Int).toNat (.agg [(.int .i64 0),(.int .i64 0)])) else none:=(h.is _ rfl).trans ((Qah rfl).trans (by kernel_rfl))
def f103_b0:AC :=
 (.seq (.seq (rg [oo 8 (.mv (.t 4)),
 oo 9 (.mv (.t 0)),
 oo 10 (.len false (.t 9)),
 oo 11 (.bin .lss (.t 8) (.t 10))])
 (.cond (.t 11) .skip (.exit 0)))
 (.seq (.block 1 (rg [oo 14 (.mv (.t 3)),
 oo 15 (.mv (.t 4)),
 oo 16 (.mv (.t 0)),
 oo 17 (.mv (.t 4)),
 oo 18 (.iaddr 2 (.t 16) (.t 17)),
 oo 19 (.load true 2 (.t 18)),
 oo 20 (.call false 147 [(.t 19)]),
 oo 21 (.iaddr 2 (.t 14) (.t 15)),
 ⟨none,.store 2 (.t 21) (.t 20),none⟩]))
 (rg [oo 12 (.mv (.t 4)),
 oo 13 (.bin .add (.t 12) (ci 1)),
 oo 4 (.mv (.t 13))])))
def f103_r0:AC :=
 (.seq (rg [oo 22 (.mv (.t 3)),
 oo 2 (.mv (.t 22))])
 .ret)
def f103_ac:AC :=
 (.seq (rg [oo 2 (.mv (.c (.nsl 2)))])
 (.seq (rg [oo 5 (.mv (.t 0)),
 oo 6 (.len false (.t 5)),
 oo 7 (.mkslice 7 2 16 (.agg [(.int .i64 0),(.int .i64 0)]) (.t 6) (.t 6)),
 oo 3 (.mv (.t 7))])
 (.seq (.seq (rg [oo 4 (.mv (ci 0))])
 (.block 0 (.loop ⟨[0,4],[(3,2,false)],[]⟩ f103_b0)))
 f103_r0)))
noncomputable def f103_l0 (E:Env) (x0:U) (x4:U) (c3:List U):Option U:=loopK (roundOf E ⟨[0,4],[(3,2,false)],[]⟩ f103_b0 (blockK 0 (seqK (fun s=>exec E f103_r0 s (finishF [(2,none)])) (finishF [(2,none)])))) ([.val x0,.val x4],[.vir (.asl 2 c3)])
theorem Qjz (E:Env) (x0:U) (x4:U) (c3:List U):f103_l0 E x0 x4 c3 =
 (U.lenOf false x0).bind fun n2=>(U.bin .lss x4 (.int .i64 (n2:Int))).bind fun t3=>U.asBool t3
 (U.asInt x4 fun n4=>U.elemAt 2 x0 n4 fun e5=>U.asVar true 2 e5 fun e6=>(E 147 [e6]).bind fun t7=>U.asInt x4 fun n8=>if 2 = 2 ∧ 0 ≤ n8 ∧ n8 < ((c3).length:Int) then if storable (.val t7) = true ∧ t7.size = 2 then (c3[(n8:Int).toNat]?).bind fun e9=>if e9.size = 2 then (U.bin .add x4 (.int .i64 1)).bind fun t10=>f103_l0 E x0 t10 (c3.set (n8:Int).toNat t7) else none else none else none)
 (if U.flat.flats c3 = true then some (.sl 2 c3) else none):=(Qf E _ _ _ _).trans (by kernel_rfl)
structure G_f103 (E:Env):Prop where
 is:Is E 100142 1 f103_ac [(2,none)]
 c_f101:G_f101 E
theorem Qti {E:Env} (h:G_f103 E) (a0:U):E 100142 [a0] =
 (U.lenOf false a0).bind fun n1=>if 0 ≤ (n1:Int) ∧ (n1:Int) ≤ (n1:Int) ∧ (n1:Int) * 16 ≤ 140737488355328 ∧ ((.agg [(.int .i64 0),(.int .i64 0)]):U).size = 2 then f103_l0 E a0 (.int .i64 0) (List.replicate ((n1:Int):Int).toNat (.agg [(.int .i64 0),(.int .i64 0)])) else none:=(h.is _ rfl).trans ((Qah rfl).trans (by kernel_rfl))
def f79_ac:AC :=
 (.seq (rg [oo 1 (.box false 1 (.t 0)),
 oo 2 (.alloc 2 (.agg [(.bool false),(.agg [(.nsl 1)]),(.nsl 9),(.nsl 2),(.nsl 2),(.int .i64 0)]))])
 (.seq (rg [oo 3 (.alloc 3 (.agg [(.bool false),(.agg [(.nsl 1)]),(.nsl 9),(.nsl 2),(.nsl 2),(.int .i64 0)]))])
 (.seq (rg [oo 4 (.faddr 0 0 (.t 1)),
 oo 5 (.load false 1 (.t 4)),
 oo 6 (.faddr 0 0 (.t 3)),
 ⟨none,.store 1 (.t 6) (.t 5),none⟩])
 (.seq (rg [oo 7 (.faddr 1 1 (.t 1)),
 oo 8 (.load true 1 (.t 7)),
 oo 9 (.callF 9 false [(.agg [(.sl 1)])] 93 [(.t 8)]),
 oo 10 (.faddr 1 1 (.t 3)),
 ⟨none,.storeM 3000 1 (.t 10) (.t 9),none⟩])
 (.seq (rg [oo 11 (.faddr 2 2 (.t 1)),
 oo 12 (.load false 1 (.t 11)),
 oo 13 (.callF 13 false [(.sl 9)] 144 [(.t 12)]),
 oo 14 (.faddr 2 2 (.t 3)),
 ⟨none,.storeM 3002 1 (.t 14) (.t 13),none⟩])
 (.seq (rg [oo 15 (.faddr 3 3 (.t 1)),
 oo 16 (.load false 1 (.t 15)),
 oo 17 (.callF 17 false [(.sl 2)] 143 [(.t 16)]),
 oo 18 (.faddr 3 3 (.t 3)),
 ⟨none,.storeM 3003 1 (.t 18) (.t 17),none⟩])
 (.seq (rg [oo 19 (.faddr 4 4 (.t 1)),
 oo 20 (.load false 1 (.t 19)),
 oo 21 (.callF 21 false [(.sl 2)] 142 [(.t 20)]),
 oo 22 (.faddr 4 4 (.t 3)),
 ⟨none,.storeM 3004 1 (.t 22) (.t 21),none⟩])
 (.seq (rg [oo 23 (.faddr 5 5 (.t 1)),
 oo 24 (.load false 1 (.t 23)),
 oo 25 (.faddr 5 5 (.t 3)),
 ⟨none,.store 1 (.t 25) (.t 24),none⟩])
 (.seq (rg [oo 26 (.loadO (.agg [.bool,(.agg [(.sl 1)]),(.sl 9),(.sl 2),(.sl 2),.int]) (.t 3)),
 ⟨none,.storeM 3001 6 (.t 2) (.t 26),none⟩])
 .ret)))))))))
structure G_f79 (E:Env):Prop where
 is:Is E 100124 1 f79_ac [(2,some (true,6))]
 c_f91:G_f91 E
 c_f94:G_f94 E
 c_f86:G_f86 E
 c_f103:G_f103 E
theorem f79_E {E:Env} (h:G_f79 E) (a0:U):E 100124 [a0] =
 U.noTup a0 fun x1=>U.asAgg x1 fun us2=>if 0 = sizes (us2.take 0) then (us2[0]?).bind fun e3=>U.asVar false 1 e3 fun e4=>if storable (.val e4) = true ∧ e4.size = 1 then U.asAgg x1 fun us5=>if 1 = sizes (us5.take 1) then (us5[1]?).bind fun e6=>U.asVar true 1 e6 fun e7=>(E 100093 [e7]).bind fun t8=>U.noTup t8 fun x9=>U.asAgg x9 fun us10=>(match us10 with
 | u11 :: us12=>(U.asSlK 1 u11 fun us13=>(match us12 with
 | []=>(if 1 = sizes [e4] then if 1 = sizes [e4] then if 1 = dsizes [.val e4] then U.asAgg x1 fun us14=>if 2 = sizes (us14.take 2) then (us14[2]?).bind fun e15=>U.asVar false 1 e15 fun e16=>(E 100144 [e16]).bind fun t17=>U.noTup t17 fun x18=>U.asSlK 9 x18 fun us19=>if 2 = dsizes [.val e4,.agg [.own (.sl 1 us13)]] then if 2 = dsizes [.val e4,.agg [.own (.sl 1 us13)]] then if 2 = dsizes [.val e4,.agg [.own (.sl 1 us13)]] then U.asAgg x1 fun us20=>if 3 = sizes (us20.take 3) then (us20[3]?).bind fun e21=>U.asVar false 1 e21 fun e22=>(E 100143 [e22]).bind fun t23=>U.noTup t23 fun x24=>U.asSlK 2 x24 fun us25=>if 3 = dsizes [.val e4,.agg [.own (.sl 1 us13)],.own (.sl 9 us19)] then if 3 = dsizes [.val e4,.agg [.own (.sl 1 us13)],.own (.sl 9 us19)] then if 3 = dsizes [.val e4,.agg [.own (.sl 1 us13)],.own (.sl 9 us19)] then U.asAgg x1 fun us26=>if 4 = sizes (us26.take 4) then (us26[4]?).bind fun e27=>U.asVar false 1 e27 fun e28=>(E 100142 [e28]).bind fun t29=>U.noTup t29 fun x30=>U.asSlK 2 x30 fun us31=>if 4 = dsizes [.val e4,.agg [.own (.sl 1 us13)],.own (.sl 9 us19),.own (.sl 2 us25)] then if 4 = dsizes [.val e4,.agg [.own (.sl 1 us13)],.own (.sl 9 us19),.own (.sl 2 us25)] then if 4 = dsizes [.val e4,.agg [.own (.sl 1 us13)],.own (.sl 9 us19),.own (.sl 2 us25)] then U.asAgg x1 fun us32=>if 5 = sizes (us32.take 5) then (us32[5]?).bind fun e33=>U.asVar false 1 e33 fun e34=>if storable (.val e34) = true ∧ e34.size = 1 then if 5 = dsizes [.val e4,.agg [.own (.sl 1 us13)],.own (.sl 9 us19),.own (.sl 2 us25),.own (.sl 2 us31)] then U.asB e4 fun b35=>U.asInt e34 fun n36=>if 1 = dsizes [.val e4] then if 1 = dsizes [.val e4] then if 2 = dsizes [.val e4,.agg [.junk 1]] then if 2 = dsizes [.val e4,.agg [.junk 1]] then if 3 = dsizes [.val e4,.agg [.junk 1],.junk 1] then if 3 = dsizes [.val e4,.agg [.junk 1],.junk 1] then if 4 = dsizes [.val e4,.agg [.junk 1],.junk 1,.junk 1] then if 4 = dsizes [.val e4,.agg [.junk 1],.junk 1,.junk 1] then some (.agg [(.bool b35),(.agg [(.sl 1 us13)]),(.sl 9 us19),(.sl 2 us25),(.sl 2 us31),(.int .i64 n36)]) else none else none else none else none else none else none else none else none else none else none else none else none else none else none else none else none else none else none else none else none else none else none else none else none else none else none)
 | _=>none))
 | []=>none) else none else none else none:=(h.is _ rfl).trans ((Qah rfl).trans (by kernel_rfl))
def f13_b0:AC :=
 (.seq (rg [oo 15 (.bin .lss (.t 14) (.t 13))])
 (.seq (.cond (.t 15) .skip (.exit 0))
 (.seq (.block 1 (.seq (rg [oo 16 (.iaddr 9 (.t 12) (.t 14)),
 oo 17 (.load true 9 (.t 16)),
 oo 5 (.alloc 5 (.agg [(.int .i64 0),(.int .i64 0),(.int .i64 0),(.int .i64 0),(.int .i64 0),(.int .i64 0),(.int .i64 0),(.nsl 2),(.nsl 2)])),
 ⟨none,.store 9 (.t 5) (.t 17),none⟩])
 (.seq (rg [oo 18 (.faddr 2 2 (.t 5)),
 oo 19 (.load false 1 (.t 18)),
 oo 20 (.bin .eql (.t 19) (ci 2))])
 (.cond (.t 20) (.seq (rg [oo 21 (.load true 9 (.t 5)),
 oo 22 (.callF 22 false [(.agg [.int,.int,.int,.int,.int,.int,.int,(.sl 2),(.sl 2)])] 222 [(.t 21)]),
 oo 6 (.alloc 6 (.agg [(.int .i64 0),(.int .i64 0),(.int .i64 0),(.int .i64 0),(.int .i64 0),(.int .i64 0),(.int .i64 0),(.nsl 2),(.nsl 2)])),
 ⟨none,.storeM 3000 9 (.t 6) (.t 22),none⟩])
 (rg [oo 23 (.mv (.t 3)),
 oo 24 (.faddr 0 0 (.t 6)),
 oo 25 (.load false 1 (.t 24)),
 oo 26 (.faddr 6 6 (.t 6)),
 oo 27 (.load false 1 (.t 26)),
 oo 28 (.faddr 7 7 (.t 6)),
 oo 29 (.loadO (.sl 2) (.t 28)),
 oo 30 (.faddr 8 8 (.t 6)),
 oo 31 (.loadO (.sl 2) (.t 30)),
 oo 32 (.build [(.int .i64 0),(.int .i64 0),(.nsl 2),(.nsl 2)] [(0,(.t 25)),(1,(.t 27)),(2,(.t 29)),(3,(.t 31))]),
 oo 33 (.bslice 2 33 4 1 (.agg [(.int .i64 0),(.int .i64 0),(.nsl 2),(.nsl 2)]) [(0,(.t 32))]),
 oo 34 (.append true 34 4 64 (.t 23) (.t 33)),
 oo 3 (.mv (.t 34))])) .skip))))
 (rg [oo 35 (.bin .add (.t 14) (ci 1)),
 oo 14 (.mv (.t 35))]))))
def f13_r0:AC :=
 (.seq (rg [oo 36 (.mv (.t 3)),
 oo 37 (.callM 4 472 (.t 36) [(.c (.fn 471 []))])])
 (.seq (rg [oo 38 (.mv (.t 3)),
 oo 2 (.mv (.t 38))])
 .ret))
def f13_ac:AC :=
 (.seq (rg [oo 1 (.box false 1 (.t 0)),
 oo 2 (.mv (.c (.nsl 4)))])
 (.seq (.seq (rg [oo 7 (.load true 6 (.t 1)),
 oo 8 (.call false 148 [(.t 7)]),
 oo 9 (.un .not (.t 8))])
 (.cond (.t 9) (.seq (rg [oo 2 (.mv (.c (.nsl 4)))])
 .ret) .skip))
 (.seq (rg [oo 10 (.bslice 2 10 4 0 (.agg [(.int .i64 0),(.int .i64 0),(.nsl 2),(.nsl 2)]) []),
 oo 3 (.mv (.t 10))])
 (.seq (.seq (rg [oo 11 (.faddr 2 2 (.t 1)),
 oo 12 (.load false 1 (.t 11)),
 oo 13 (.len false (.t 12)),
 oo 14 (.mv (ci 0))])
 (.block 0 (.loop ⟨[12,13,14],[(3,4,true)],[]⟩ f13_b0)))
 f13_r0))))
noncomputable def f13_l0 (E:Env) (x12:U) (x13:U) (x14:U) (c3:List U):Option U:=loopK (roundOf E ⟨[12,13,14],[(3,4,true)],[]⟩ f13_b0 (blockK 0 (seqK (fun s=>exec E f13_r0 s (finishF [(2,none)])) (finishF [(2,none)])))) ([.val x12,.val x13,.val x14],[.vir (.own (.sl 4 c3))])
theorem Qla (E:Env) (x12:U) (x13:U) (x14:U) (c3:List U):f13_l0 E x12 x13 x14 c3 =
 (U.bin .lss x14 x13).bind fun t9=>U.asBool t9
 (U.asInt x14 fun n10=>U.elemAt 9 x12 n10 fun e11=>U.asVar true 9 e11 fun e12=>if storable (.val e12) = true ∧ e12.size = 9 then U.asAgg e12 fun us13=>if 2 = sizes (us13.take 2) then (us13[2]?).bind fun e14=>U.asVar false 1 e14 fun e15=>(U.bin .eql e15 (.int .i64 2)).bind fun t16=>U.asBool t16
 (U.asVar true 9 e12 fun e17=>(E 100222 [e17]).bind fun t18=>U.noTup t18 fun x19=>U.asAgg x19 fun us20=>(match us20 with
 | u21 :: us22=>(U.asInt u21 fun n23=>(match us22 with
 | u24 :: us25=>(U.asInt u24 fun n26=>(match us25 with
 | u27 :: us28=>(U.asInt u27 fun n29=>(match us28 with
 | u30 :: us31=>(U.asInt u30 fun n32=>(match us31 with
 | u33 :: us34=>(U.asInt u33 fun n35=>(match us34 with
 | u36 :: us37=>(U.asInt u36 fun n38=>(match us37 with
 | u39 :: us40=>(U.asInt u39 fun n41=>(match us40 with
 | u42 :: us43=>(U.asSlK 2 u42 fun us44=>(match us43 with
 | u45 :: us46=>(U.asSlK 2 u45 fun us47=>(match us46 with
 | []=>(if ((c3).length + ([(.agg [(.int .i64 n23),(.int .i64 n41),(.sl 2 us44),(.sl 2 us47)])]:List U).length) * 64 ≤ 140737488355328 then (U.bin .add x14 (.int .i64 1)).bind fun t48=>f13_l0 E x12 x13 t48 (c3 ++ ([(.agg [(.int .i64 n23),(.int .i64 n41),(.sl 2 us44),(.sl 2 us47)])]:List U)) else none)
 | _=>none))
 | []=>none))
 | []=>none))
 | []=>none))
 | []=>none))
 | []=>none))
 | []=>none))
 | []=>none))
 | []=>none))
 | []=>none))
 ((U.bin .add x14 (.int .i64 1)).bind fun t49=>f13_l0 E x12 x13 t49 c3) else none else none)
 ((E 200472 (.agg [.tup [.sl 4 c3]] :: [(.fn 471 [])])).bind fun t50=>U.asMut 4 t50 fun y51 ys52=>U.asFlat y51 fun y51=>some (.sl 4 ys52)):=(Qf E _ _ _ _).trans (by kernel_rfl)
structure G_f13 (E:Env):Prop where
 is:Is E 100469 1 f13_ac [(2,none)]
 c_f16:G_f16 E
 c_f12:G_f12 E
 c_f28:G_f28 E
 c_slices_SortStableFunc_g472:IsStab E 472 471 4 key1 isEnt
theorem f13_E {E:Env} (h:G_f13 E) (a0:U):E 100469 [a0] =
 U.noTup a0 fun x1=>U.asVar true 6 x1 fun e2=>(E 148 [e2]).bind fun t3=>(U.un .not t3).bind fun t4=>U.asBool t4
 (some (.sl 4 []))
 (U.asAgg x1 fun us5=>if 2 = sizes (us5.take 2) then (us5[2]?).bind fun e6=>U.asVar false 1 e6 fun e7=>(U.lenOf false e7).bind fun n8=>f13_l0 E e7 (.int .i64 (n8:Int)) (.int .i64 0) [] else none):=(h.is _ rfl).trans ((Qah rfl).trans (by kernel_rfl))
def f60_b0:AC :=
 (.seq (.seq (rg [oo 6 (.mv (.t 5)),
 oo 7 (.mv (.t 0)),
 oo 8 (.len false (.t 7)),
 oo 9 (.bin .lss (.t 6) (.t 8))])
 (.cond (.t 9) .skip (.exit 0)))
 (.seq (.block 1 (.seq (rg [oo 12 (.mv (.t 0)),
 oo 13 (.mv (.t 5)),
 oo 14 (.mv (.t 1)),
 oo 15 (.iaddr 2 (.t 12) (.t 13)),
 oo 16 (.faddr 0 0 (.t 15)),
 ⟨none,.store 1 (.t 16) (.t 14),none⟩])
 (.seq (rg [oo 17 (.mv (.t 1)),
 oo 18 (.bin .add (.t 17) (ci 1)),
 oo 1 (.mv (.t 18))])
 (.seq (rg [oo 19 (.mv (.t 0)),
 oo 20 (.mv (.t 5)),
 oo 21 (.mv (.t 1)),
 oo 22 (.iaddr 2 (.t 19) (.t 20)),
 oo 23 (.faddr 1 1 (.t 22)),
 ⟨none,.store 1 (.t 23) (.t 21),none⟩])
 (rg [oo 24 (.mv (.t 1)),
 oo 25 (.bin .add (.t 24) (ci 1)),
 oo 1 (.mv (.t 25))])))))
 (rg [oo 10 (.mv (.t 5)),
 oo 11 (.bin .add (.t 10) (ci 1)),
 oo 5 (.mv (.t 11))])))
def f60_r0:AC :=
 (.seq (rg [oo 26 (.mv (.t 1)),
 oo 4 (.mv (.t 26))])
 .ret)
def f60_ac:AC :=
 (.seq (rg [oo 4 (.mv (ci 0))])
 (.seq (.seq (rg [oo 5 (.mv (ci 0))])
 (.block 0 (.loop ⟨[0,1,5],[],[(5000,true)]⟩ f60_b0)))
 f60_r0))
noncomputable def f60_l0 (E:Env) (x1:U) (x5:U) (b5000:List U):Option U:=loopK (roundOf E ⟨[0,1,5],[],[(5000,true)]⟩ f60_b0 (blockK 0 (seqK (fun s=>exec E f60_r0 s (finishM 2 [(4,none)])) (finishM 2 [(4,none)])))) ([.ref 5000 [] 2 none,.val x1,.val x5],[.vir (.own (.sl 2 b5000))])
theorem Qmq (E:Env) (x1:U) (x5:U) (b5000:List U):f60_l0 E x1 x5 b5000 =
 (U.bin .lss x5 (.int .i64 (b5000.length:Int))).bind fun t1=>U.asBool t1
 (U.asInt x5 fun n2=>if 2 = 2 ∧ 0 ≤ n2 ∧ n2 < (b5000.length:Int) then if storable (.val x1) = true ∧ x1.size = 1 then (b5000[(n2:Int).toNat]?).bind fun e3=>U.asAgg e3 fun us4=>if 0 = sizes (us4.take 0) then (us4[0]?).bind fun e5=>if e5.size = 1 then if (x1:U).flat = true then (U.bin .add x1 (.int .i64 1)).bind fun t6=>U.asInt x5 fun n7=>if 2 = 2 ∧ 0 ≤ n7 ∧ n7 < (((b5000.set (n2:Int).toNat (.agg (us4.set 0 x1)))).length:Int) then if storable (.val t6) = true ∧ t6.size = 1 then ((b5000.set (n2:Int).toNat (.agg (us4.set 0 x1)))[(n7:Int).toNat]?).bind fun e8=>U.asAgg e8 fun us9=>if 1 = sizes (us9.take 1) then (us9[1]?).bind fun e10=>if e10.size = 1 then if (t6:U).flat = true then (U.bin .add t6 (.int .i64 1)).bind fun t11=>(U.bin .add x5 (.int .i64 1)).bind fun t12=>f60_l0 E t11 t12 ((b5000.set (n2:Int).toNat (.agg (us4.set 0 x1))).set (n7:Int).toNat (.agg (us9.set 1 t6))) else none else none else none else none else none else none else none else none else none else none)
 (if (x1:U).flat = true then some (.tup [x1,.sl 2 b5000]) else none):=(Qf E _ _ _ _).trans (by kernel_rfl)
structure G_f60 (E:Env):Prop where
 is:Is E 200095 2 f60_ac [(4,none)]
theorem f60_E {E:Env} (h:G_f60 E) (xs0:List U) (a1:U):E 200095 (.agg [.tup [.sl 2 xs0]] :: [a1]) =
 f60_l0 E a1 (.int .i64 0) xs0:=(h.is _ rfl).trans ((Qb5 rfl).trans (by kernel_rfl))
def f65_b0:AC :=
 (.seq (.seq (rg [oo 6 (.mv (.t 5)),
 oo 7 (.mv (.t 0)),
 oo 8 (.len false (.t 7)),
 oo 9 (.bin .lss (.t 6) (.t 8))])
 (.cond (.t 9) .skip (.exit 0)))
 (.seq (.block 1 (.seq (rg [oo 12 (.mv (.t 0)),
 oo 13 (.mv (.t 5)),
 oo 14 (.mv (.t 1)),
 oo 15 (.iaddr 2 (.t 12) (.t 13)),
 oo 16 (.faddr 0 0 (.t 15)),
 ⟨none,.store 1 (.t 16) (.t 14),none⟩])
 (.seq (rg [oo 17 (.mv (.t 1)),
 oo 18 (.bin .add (.t 17) (ci 1)),
 oo 1 (.mv (.t 18))])
 (.seq (rg [oo 19 (.mv (.t 0)),
 oo 20 (.mv (.t 5)),
 oo 21 (.mv (.t 1)),
 oo 22 (.iaddr 2 (.t 19) (.t 20)),
 oo 23 (.faddr 1 1 (.t 22)),
 ⟨none,.store 1 (.t 23) (.t 21),none⟩])
 (rg [oo 24 (.mv (.t 1)),
 oo 25 (.bin .add (.t 24) (ci 1)),
 oo 1 (.mv (.t 25))])))))
 (rg [oo 10 (.mv (.t 5)),
 oo 11 (.bin .add (.t 10) (ci 1)),
 oo 5 (.mv (.t 11))])))
def f65_r0:AC :=
 (.seq (rg [oo 26 (.mv (.t 1)),
 oo 4 (.mv (.t 26))])
 .ret)
def f65_ac:AC :=
 (.seq (rg [oo 4 (.mv (ci 0))])
 (.seq (.seq (rg [oo 5 (.mv (ci 0))])
 (.block 0 (.loop ⟨[0,1,5],[],[(5000,true)]⟩ f65_b0)))
 f65_r0))
noncomputable def f65_l0 (E:Env) (x1:U) (x5:U) (b5000:List U):Option U:=loopK (roundOf E ⟨[0,1,5],[],[(5000,true)]⟩ f65_b0 (blockK 0 (seqK (fun s=>exec E f65_r0 s (finishM 2 [(4,none)])) (finishM 2 [(4,none)])))) ([.ref 5000 [] 2 none,.val x1,.val x5],[.vir (.own (.sl 2 b5000))])
theorem Qm1 (E:Env) (x1:U) (x5:U) (b5000:List U):f65_l0 E x1 x5 b5000 =
 (U.bin .lss x5 (.int .i64 (b5000.length:Int))).bind fun t1=>U.asBool t1
 (U.asInt x5 fun n2=>if 2 = 2 ∧ 0 ≤ n2 ∧ n2 < (b5000.length:Int) then if storable (.val x1) = true ∧ x1.size = 1 then (b5000[(n2:Int).toNat]?).bind fun e3=>U.asAgg e3 fun us4=>if 0 = sizes (us4.take 0) then (us4[0]?).bind fun e5=>if e5.size = 1 then if (x1:U).flat = true then (U.bin .add x1 (.int .i64 1)).bind fun t6=>U.asInt x5 fun n7=>if 2 = 2 ∧ 0 ≤ n7 ∧ n7 < (((b5000.set (n2:Int).toNat (.agg (us4.set 0 x1)))).length:Int) then if storable (.val t6) = true ∧ t6.size = 1 then ((b5000.set (n2:Int).toNat (.agg (us4.set 0 x1)))[(n7:Int).toNat]?).bind fun e8=>U.asAgg e8 fun us9=>if 1 = sizes (us9.take 1) then (us9[1]?).bind fun e10=>if e10.size = 1 then if (t6:U).flat = true then (U.bin .add t6 (.int .i64 1)).bind fun t11=>(U.bin .add x5 (.int .i64 1)).bind fun t12=>f65_l0 E t11 t12 ((b5000.set (n2:Int).toNat (.agg (us4.set 0 x1))).set (n7:Int).toNat (.agg (us9.set 1 t6))) else none else none else none else none else none else none else none else none else none else none)
 (if (x1:U).flat = true then some (.tup [x1,.sl 2 b5000]) else none):=(Qf E _ _ _ _).trans (by kernel_rfl)
structure G_f65 (E:Env):Prop where
 is:Is E 200232 2 f65_ac [(4,none)]
theorem f65_E {E:Env} (h:G_f65 E) (xs0:List U) (a1:U):E 200232 (.agg [.tup [.sl 2 xs0]] :: [a1]) =
 f65_l0 E a1 (.int .i64 0) xs0:=(h.is _ rfl).trans ((Qb5 rfl).trans (by kernel_rfl))
def f58_b0:AC :=
 (.seq (.seq (rg [oo 6 (.mv (.t 5)),
 oo 7 (.mv (.t 0)),
 oo 8 (.len false (.t 7)),
 oo 9 (.bin .lss (.t 6) (.t 8))])
 (.cond (.t 9) .skip (.exit 0)))
 (.seq (.block 1 (.seq (rg [oo 12 (.mv (.t 0)),
 oo 13 (.mv (.t 5)),
 oo 14 (.mv (.t 1)),
 oo 15 (.iaddr 4 (.t 12) (.t 13)),
 oo 16 (.faddr 0 0 (.t 15)),
 ⟨none,.store 1 (.t 16) (.t 14),none⟩])
 (.seq (rg [oo 17 (.mv (.t 1)),
 oo 18 (.bin .add (.t 17) (ci 1)),
 oo 1 (.mv (.t 18))])
 (.seq (rg [oo 19 (.mv (.t 0)),
 oo 20 (.mv (.t 5)),
 oo 21 (.mv (.t 1)),
 oo 22 (.iaddr 4 (.t 19) (.t 20)),
 oo 23 (.faddr 1 1 (.t 22)),
 ⟨none,.store 1 (.t 23) (.t 21),none⟩])
 (.seq (rg [oo 24 (.mv (.t 1)),
 oo 25 (.bin .add (.t 24) (ci 1)),
 oo 1 (.mv (.t 25))])
 (.seq (rg [oo 26 (.mv (.t 0)),
 oo 27 (.mv (.t 5)),
 oo 28 (.iaddr 4 (.t 26) (.t 27)),
 oo 29 (.faddr 2 2 (.t 28)),
 oo 30 (.loadO (.sl 2) (.t 29)),
 oo 31 (.mv (.t 1)),
 oo 32 (.callM 2 95 (.t 30) [(.t 31)]),
 oo 1 (.mv (.t 32))])
 (rg [oo 33 (.mv (.t 0)),
 oo 34 (.mv (.t 5)),
 oo 35 (.iaddr 4 (.t 33) (.t 34)),
 oo 36 (.faddr 3 3 (.t 35)),
 oo 37 (.loadO (.sl 2) (.t 36)),
 oo 38 (.mv (.t 1)),
 oo 39 (.callM 2 232 (.t 37) [(.t 38)]),
 oo 1 (.mv (.t 39))])))))))
 (rg [oo 10 (.mv (.t 5)),
 oo 11 (.bin .add (.t 10) (ci 1)),
 oo 5 (.mv (.t 11))])))
def f58_r0:AC :=
 (.seq (rg [oo 40 (.mv (.t 1)),
 oo 4 (.mv (.t 40))])
 .ret)
def f58_ac:AC :=
 (.seq (rg [oo 4 (.mv (ci 0))])
 (.seq (.seq (rg [oo 5 (.mv (ci 0))])
 (.block 0 (.loop ⟨[0,1,5],[],[(5000,true)]⟩ f58_b0)))
 f58_r0))
noncomputable def f58_l0 (E:Env) (x1:U) (x5:U) (b5000:List U):Option U:=loopK (roundOf E ⟨[0,1,5],[],[(5000,true)]⟩ f58_b0 (blockK 0 (seqK (fun s=>exec E f58_r0 s (finishM 4 [(4,none)])) (finishM 4 [(4,none)])))) ([.ref 5000 [] 4 none,.val x1,.val x5],[.vir (.own (.sl 4 b5000))])
theorem Qmk (E:Env) (x1:U) (x5:U) (b5000:List U):f58_l0 E x1 x5 b5000 =
 (U.bin .lss x5 (.int .i64 (b5000.length:Int))).bind fun t1=>U.asBool t1
 (U.asInt x5 fun n2=>if 4 = 4 ∧ 0 ≤ n2 ∧ n2 < (b5000.length:Int) then if storable (.val x1) = true ∧ x1.size = 1 then (b5000[(n2:Int).toNat]?).bind fun e3=>U.asAgg e3 fun us4=>if 0 = sizes (us4.take 0) then (us4[0]?).bind fun e5=>if e5.size = 1 then if (x1:U).flat = true then (U.bin .add x1 (.int .i64 1)).bind fun t6=>U.asInt x5 fun n7=>if 4 = 4 ∧ 0 ≤ n7 ∧ n7 < (((b5000.set (n2:Int).toNat (.agg (us4.set 0 x1)))).length:Int) then if storable (.val t6) = true ∧ t6.size = 1 then ((b5000.set (n2:Int).toNat (.agg (us4.set 0 x1)))[(n7:Int).toNat]?).bind fun e8=>U.asAgg e8 fun us9=>if 1 = sizes (us9.take 1) then (us9[1]?).bind fun e10=>if e10.size = 1 then if (t6:U).flat = true then (U.bin .add t6 (.int .i64 1)).bind fun t11=>U.asInt x5 fun n12=>if 4 = 4 ∧ 0 ≤ n12 ∧ n12 < ((((b5000.set (n2:Int).toNat (.agg (us4.set 0 x1))).set (n7:Int).toNat (.agg (us9.set 1 t6)))).length:Int) then (((b5000.set (n2:Int).toNat (.agg (us4.set 0 x1))).set (n7:Int).toNat (.agg (us9.set 1 t6)))[(n12:Int).toNat]?).bind fun e13=>U.asAgg e13 fun us14=>if 2 = sizes (us14.take 2) then (us14[2]?).bind fun e15=>U.asSlK 2 e15 fun _=>(((b5000.set (n2:Int).toNat (.agg (us4.set 0 x1))).set (n7:Int).toNat (.agg (us9.set 1 t6)))[(n12:Int).toNat]?).bind fun e16=>U.asAgg e16 fun us17=>if 2 = sizes (us17.take 2) then (us17[2]?).bind fun e18=>U.asSlK 2 e18 fun _=>U.asSlK 2 e18 fun us19=>(E 200095 (.agg [.tup [.sl 2 us19]] :: [t11])).bind fun t20=>U.asMut 2 t20 fun y21 ys22=>U.asFlat y21 fun y21=>(((b5000.set (n2:Int).toNat (.agg (us4.set 0 x1))).set (n7:Int).toNat (.agg (us9.set 1 t6)))[(n12:Int).toNat]?).bind fun e23=>U.asAgg e23 fun us24=>if 2 = sizes (us24.take 2) then (us24[2]?).bind fun e25=>if e25.size = 1 then U.asInt x5 fun n26=>if 4 = 4 ∧ 0 ≤ n26 ∧ n26 < (((((b5000.set (n2:Int).toNat (.agg (us4.set 0 x1))).set (n7:Int).toNat (.agg (us9.set 1 t6))).set (n12:Int).toNat (.agg (us24.set 2 (.sl 2 ys22))))).length:Int) then ((((b5000.set (n2:Int).toNat (.agg (us4.set 0 x1))).set (n7:Int).toNat (.agg (us9.set 1 t6))).set (n12:Int).toNat (.agg (us24.set 2 (.sl 2 ys22))))[(n26:Int).toNat]?).bind fun e27=>U.asAgg e27 fun us28=>if 3 = sizes (us28.take 3) then (us28[3]?).bind fun e29=>U.asSlK 2 e29 fun _=>((((b5000.set (n2:Int).toNat (.agg (us4.set 0 x1))).set (n7:Int).toNat (.agg (us9.set 1 t6))).set (n12:Int).toNat (.agg (us24.set 2 (.sl 2 ys22))))[(n26:Int).toNat]?).bind fun e30=>U.asAgg e30 fun us31=>if 3 = sizes (us31.take 3) then (us31[3]?).bind fun e32=>U.asSlK 2 e32 fun _=>U.asSlK 2 e32 fun us33=>(E 200232 (.agg [.tup [.sl 2 us33]] :: [y21])).bind fun t34=>U.asMut 2 t34 fun y35 ys36=>U.asFlat y35 fun y35=>((((b5000.set (n2:Int).toNat (.agg (us4.set 0 x1))).set (n7:Int).toNat (.agg (us9.set 1 t6))).set (n12:Int).toNat (.agg (us24.set 2 (.sl 2 ys22))))[(n26:Int).toNat]?).bind fun e37=>U.asAgg e37 fun us38=>if 3 = sizes (us38.take 3) then (us38[3]?).bind fun e39=>if e39.size = 1 then (U.bin .add x5 (.int .i64 1)).bind fun t40=>f58_l0 E y35 t40 ((((b5000.set (n2:Int).toNat (.agg (us4.set 0 x1))).set (n7:Int).toNat (.agg (us9.set 1 t6))).set (n12:Int).toNat (.agg (us24.set 2 (.sl 2 ys22)))).set (n26:Int).toNat (.agg (us38.set 3 (.sl 2 ys36)))) else none else none else none else none else none else none else none else none else none else none else none else none else none else none else none else none else none else none else none else none)
 (if (x1:U).flat = true then some (.tup [x1,.sl 4 b5000]) else none):=(Qf E _ _ _ _).trans (by kernel_rfl)
structure G_f58 (E:Env):Prop where
 is:Is E 200287 2 f58_ac [(4,none)]
 c_f60:G_f60 E
 c_f65:G_f65 E
theorem f58_E {E:Env} (h:G_f58 E) (xs0:List U) (a1:U):E 200287 (.agg [.tup [.sl 4 xs0]] :: [a1]) =
 f58_l0 E a1 (.int .i64 0) xs0:=(h.is _ rfl).trans ((Qb5 rfl).trans (by kernel_rfl))
def f61_b0:AC :=
 (.seq (.seq (rg [oo 6 (.mv (.t 5)),
 oo 7 (.mv (.t 0)),
 oo 8 (.len false (.t 7)),
 oo 9 (.bin .lss (.t 6) (.t 8))])
 (.cond (.t 9) .skip (.exit 0)))
 (.seq (.block 1 (.seq (rg [oo 12 (.mv (.t 0)),
 oo 13 (.mv (.t 5)),
 oo 14 (.mv (.t 1)),
 oo 15 (.iaddr 9 (.t 12) (.t 13)),
 oo 16 (.faddr 0 0 (.t 15)),
 ⟨none,.store 1 (.t 16) (.t 14),none⟩])
 (.seq (rg [oo 17 (.mv (.t 1)),
 oo 18 (.bin .add (.t 17) (ci 1)),
 oo 1 (.mv (.t 18))])
 (.seq (rg [oo 19 (.mv (.t 0)),
 oo 20 (.mv (.t 5)),
 oo 21 (.mv (.t 1)),
 oo 22 (.iaddr 9 (.t 19) (.t 20)),
 oo 23 (.faddr 1 1 (.t 22)),
 ⟨none,.store 1 (.t 23) (.t 21),none⟩])
 (.seq (rg [oo 24 (.mv (.t 1)),
 oo 25 (.bin .add (.t 24) (ci 1)),
 oo 1 (.mv (.t 25))])
 (.seq (rg [oo 26 (.mv (.t 0)),
 oo 27 (.mv (.t 5)),
 oo 28 (.mv (.t 1)),
 oo 29 (.iaddr 9 (.t 26) (.t 27)),
 oo 30 (.faddr 2 2 (.t 29)),
 ⟨none,.store 1 (.t 30) (.t 28),none⟩])
 (.seq (rg [oo 31 (.mv (.t 1)),
 oo 32 (.bin .add (.t 31) (ci 1)),
 oo 1 (.mv (.t 32))])
 (.seq (rg [oo 33 (.mv (.t 0)),
 oo 34 (.mv (.t 5)),
 oo 35 (.mv (.t 1)),
 oo 36 (.iaddr 9 (.t 33) (.t 34)),
 oo 37 (.faddr 3 3 (.t 36)),
 ⟨none,.store 1 (.t 37) (.t 35),none⟩])
 (.seq (rg [oo 38 (.mv (.t 1)),
 oo 39 (.bin .add (.t 38) (ci 1)),
 oo 1 (.mv (.t 39))])
 (.seq (rg [oo 40 (.mv (.t 0)),
 oo 41 (.mv (.t 5)),
 oo 42 (.mv (.t 1)),
 oo 43 (.iaddr 9 (.t 40) (.t 41)),
 oo 44 (.faddr 4 4 (.t 43)),
 ⟨none,.store 1 (.t 44) (.t 42),none⟩])
 (.seq (rg [oo 45 (.mv (.t 1)),
 oo 46 (.bin .add (.t 45) (ci 1)),
 oo 1 (.mv (.t 46))])
 (.seq (rg [oo 47 (.mv (.t 0)),
 oo 48 (.mv (.t 5)),
 oo 49 (.mv (.t 1)),
 oo 50 (.iaddr 9 (.t 47) (.t 48)),
 oo 51 (.faddr 5 5 (.t 50)),
 ⟨none,.store 1 (.t 51) (.t 49),none⟩])
 (.seq (rg [oo 52 (.mv (.t 1)),
 oo 53 (.bin .add (.t 52) (ci 1)),
 oo 1 (.mv (.t 53))])
 (.seq (rg [oo 54 (.mv (.t 0)),
 oo 55 (.mv (.t 5)),
 oo 56 (.mv (.t 1)),
 oo 57 (.iaddr 9 (.t 54) (.t 55)),
 oo 58 (.faddr 6 6 (.t 57)),
 ⟨none,.store 1 (.t 58) (.t 56),none⟩])
 (.seq (rg [oo 59 (.mv (.t 1)),
 oo 60 (.bin .add (.t 59) (ci 1)),
 oo 1 (.mv (.t 60))])
 (.seq (rg [oo 61 (.mv (.t 0)),
 oo 62 (.mv (.t 5)),
 oo 63 (.iaddr 9 (.t 61) (.t 62)),
 oo 64 (.faddr 7 7 (.t 63)),
 oo 65 (.loadO (.sl 2) (.t 64)),
 oo 66 (.mv (.t 1)),
 oo 67 (.callM 2 95 (.t 65) [(.t 66)]),
 oo 1 (.mv (.t 67))])
 (rg [oo 68 (.mv (.t 0)),
 oo 69 (.mv (.t 5)),
 oo 70 (.iaddr 9 (.t 68) (.t 69)),
 oo 71 (.faddr 8 8 (.t 70)),
 oo 72 (.loadO (.sl 2) (.t 71)),
 oo 73 (.mv (.t 1)),
 oo 74 (.callM 2 232 (.t 72) [(.t 73)]),
 oo 1 (.mv (.t 74))])))))))))))))))))
 (rg [oo 10 (.mv (.t 5)),
 oo 11 (.bin .add (.t 10) (ci 1)),
 oo 5 (.mv (.t 11))])))
def f61_r0:AC :=
 (.seq (rg [oo 75 (.mv (.t 1)),
 oo 4 (.mv (.t 75))])
 .ret)
def f61_ac:AC :=
 (.seq (rg [oo 4 (.mv (ci 0))])
 (.seq (.seq (rg [oo 5 (.mv (ci 0))])
 (.block 0 (.loop ⟨[0,1,5],[],[(5000,true)]⟩ f61_b0)))
 f61_r0))
noncomputable def f61_l0 (E:Env) (x1:U) (x5:U) (b5000:List U):Option U:=loopK (roundOf E ⟨[0,1,5],[],[(5000,true)]⟩ f61_b0 (blockK 0 (seqK (fun s=>exec E f61_r0 s (finishM 9 [(4,none)])) (finishM 9 [(4,none)])))) ([.ref 5000 [] 9 none,.val x1,.val x5],[.vir (.own (.sl 9 b5000))])
theorem Qms (E:Env) (x1:U) (x5:U) (b5000:List U):f61_l0 E x1 x5 b5000 =
 (U.bin .lss x5 (.int .i64 (b5000.length:Int))).bind fun t1=>U.asBool t1
 (U.asInt x5 fun n2=>if 9 = 9 ∧ 0 ≤ n2 ∧ n2 < (b5000.length:Int) then if storable (.val x1) = true ∧ x1.size = 1 then (b5000[(n2:Int).toNat]?).bind fun e3=>U.asAgg e3 fun us4=>if 0 = sizes (us4.take 0) then (us4[0]?).bind fun e5=>if e5.size = 1 then if (x1:U).flat = true then (U.bin .add x1 (.int .i64 1)).bind fun t6=>U.asInt x5 fun n7=>if 9 = 9 ∧ 0 ≤ n7 ∧ n7 < (((b5000.set (n2:Int).toNat (.agg (us4.set 0 x1)))).length:Int) then if storable (.val t6) = true ∧ t6.size = 1 then ((b5000.set (n2:Int).toNat (.agg (us4.set 0 x1)))[(n7:Int).toNat]?).bind fun e8=>U.asAgg e8 fun us9=>if 1 = sizes (us9.take 1) then (us9[1]?).bind fun e10=>if e10.size = 1 then if (t6:U).flat = true then (U.bin .add t6 (.int .i64 1)).bind fun t11=>U.asInt x5 fun n12=>if 9 = 9 ∧ 0 ≤ n12 ∧ n12 < ((((b5000.set (n2:Int).toNat (.agg (us4.set 0 x1))).set (n7:Int).toNat (.agg (us9.set 1 t6)))).length:Int) then if storable (.val t11) = true ∧ t11.size = 1 then (((b5000.set (n2:Int).toNat (.agg (us4.set 0 x1))).set (n7:Int).toNat (.agg (us9.set 1 t6)))[(n12:Int).toNat]?).bind fun e13=>U.asAgg e13 fun us14=>if 2 = sizes (us14.take 2) then (us14[2]?).bind fun e15=>if e15.size = 1 then if (t11:U).flat = true then (U.bin .add t11 (.int .i64 1)).bind fun t16=>U.asInt x5 fun n17=>if 9 = 9 ∧ 0 ≤ n17 ∧ n17 < (((((b5000.set (n2:Int).toNat (.agg (us4.set 0 x1))).set (n7:Int).toNat (.agg (us9.set 1 t6))).set (n12:Int).toNat (.agg (us14.set 2 t11)))).length:Int) then if storable (.val t16) = true ∧ t16.size = 1 then ((((b5000.set (n2:Int).toNat (.agg (us4.set 0 x1))).set (n7:Int).toNat (.agg (us9.set 1 t6))).set (n12:Int).toNat (.agg (us14.set 2 t11)))[(n17:Int).toNat]?).bind fun e18=>U.asAgg e18 fun us19=>if 3 = sizes (us19.take 3) then (us19[3]?).bind fun e20=>if e20.size = 1 then if (t16:U).flat = true then (U.bin .add t16 (.int .i64 1)).bind fun t21=>U.asInt x5 fun n22=>if 9 = 9 ∧ 0 ≤ n22 ∧ n22 < ((((((b5000.set (n2:Int).toNat (.agg (us4.set 0 x1))).set (n7:Int).toNat (.agg (us9.set 1 t6))).set (n12:Int).toNat (.agg (us14.set 2 t11))).set (n17:Int).toNat (.agg (us19.set 3 t16)))).length:Int) then if storable (.val t21) = true ∧ t21.size = 1 then (((((b5000.set (n2:Int).toNat (.agg (us4.set 0 x1))).set (n7:Int).toNat (.agg (us9.set 1 t6))).set (n12:Int).toNat (.agg (us14.set 2 t11))).set (n17:Int).toNat (.agg (us19.set 3 t16)))[(n22:Int).toNat]?).bind fun e23=>U.asAgg e23 fun us24=>if 4 = sizes (us24.take 4) then (us24[4]?).bind fun e25=>if e25.size = 1 then if (t21:U).flat = true then (U.bin .add t21 (.int .i64 1)).bind fun t26=>U.asInt x5 fun n27=>if 9 = 9 ∧ 0 ≤ n27 ∧ n27 < (((((((b5000.set (n2:Int).toNat (.agg (us4.set 0 x1))).set (n7:Int).toNat (.agg (us9.set 1 t6))).set (n12:Int).toNat (.agg (us14.set 2 t11))).set (n17:Int).toNat (.agg (us19.set 3 t16))).set (n22:Int).toNat (.agg (us24.set 4 t21)))).length:Int) then if storable (.val t26) = true ∧ t26.size = 1 then ((((((b5000.set (n2:Int).toNat (.agg (us4.set 0 x1))).set (n7:Int).toNat (.agg (us9.set 1 t6))).set (n12:Int).toNat (.agg (us14.set 2 t11))).set (n17:Int).toNat (.agg (us19.set 3 t16))).set (n22:Int).toNat (.agg (us24.set 4 t21)))[(n27:Int).toNat]?).bind fun e28=>U.asAgg e28 fun us29=>if 5 = sizes (us29.take 5) then (us29[5]?).bind fun e30=>if e30.size = 1 then if (t26:U).flat = true then (U.bin .add t26 (.int .i64 1)).bind fun t31=>U.asInt x5 fun n32=>if 9 = 9 ∧ 0 ≤ n32 ∧ n32 < ((((((((b5000.set (n2:Int).toNat (.agg (us4.set 0 x1))).set (n7:Int).toNat (.agg (us9.set 1 t6))).set (n12:Int).toNat (.agg (us14.set 2 t11))).set (n17:Int).toNat (.agg (us19.set 3 t16))).set (n22:Int).toNat (.agg (us24.set 4 t21))).set (n27:Int).toNat (.agg (us29.set 5 t26)))).length:Int) then if storable (.val t31) = true ∧ t31.size = 1 then (((((((b5000.set (n2:Int).toNat (.agg (us4.set 0 x1))).set (n7:Int).toNat (.agg (us9.set 1 t6))).set (n12:Int).toNat (.agg (us14.set 2 t11))).set (n17:Int).toNat (.agg (us19.set 3 t16))).set (n22:Int).toNat (.agg (us24.set 4 t21))).set (n27:Int).toNat (.agg (us29.set 5 t26)))[(n32:Int).toNat]?).bind fun e33=>U.asAgg e33 fun us34=>if 6 = sizes (us34.take 6) then (us34[6]?).bind fun e35=>if e35.size = 1 then if (t31:U).flat = true then (U.bin .add t31 (.int .i64 1)).bind fun t36=>U.asInt x5 fun n37=>if 9 = 9 ∧ 0 ≤ n37 ∧ n37 < (((((((((b5000.set (n2:Int).toNat (.agg (us4.set 0 x1))).set (n7:Int).toNat (.agg (us9.set 1 t6))).set (n12:Int).toNat (.agg (us14.set 2 t11))).set (n17:Int).toNat (.agg (us19.set 3 t16))).set (n22:Int).toNat (.agg (us24.set 4 t21))).set (n27:Int).toNat (.agg (us29.set 5 t26))).set (n32:Int).toNat (.agg (us34.set 6 t31)))).length:Int) then ((((((((b5000.set (n2:Int).toNat (.agg (us4.set 0 x1))).set (n7:Int).toNat (.agg (us9.set 1 t6))).set (n12:Int).toNat (.agg (us14.set 2 t11))).set (n17:Int).toNat (.agg (us19.set 3 t16))).set (n22:Int).toNat (.agg (us24.set 4 t21))).set (n27:Int).toNat (.agg (us29.set 5 t26))).set (n32:Int).toNat (.agg (us34.set 6 t31)))[(n37:Int).toNat]?).bind fun e38=>U.asAgg e38 fun us39=>if 7 = sizes (us39.take 7) then (us39[7]?).bind fun e40=>U.asSlK 2 e40 fun _=>((((((((b5000.set (n2:Int).toNat (.agg (us4.set 0 x1))).set (n7:Int).toNat (.agg (us9.set 1 t6))).set (n12:Int).toNat (.agg (us14.set 2 t11))).set (n17:Int).toNat (.agg (us19.set 3 t16))).set (n22:Int).toNat (.agg (us24.set 4 t21))).set (n27:Int).toNat (.agg (us29.set 5 t26))).set (n32:Int).toNat (.agg (us34.set 6 t31)))[(n37:Int).toNat]?).bind fun e41=>U.asAgg e41 fun us42=>if 7 = sizes (us42.take 7) then (us42[7]?).bind fun e43=>U.asSlK 2 e43 fun _=>U.asSlK 2 e43 fun us44=>(E 200095 (.agg [.tup [.sl 2 us44]] :: [t36])).bind fun t45=>U.asMut 2 t45 fun y46 ys47=>U.asFlat y46 fun y46=>((((((((b5000.set (n2:Int).toNat (.agg (us4.set 0 x1))).set (n7:Int).toNat (.agg (us9.set 1 t6))).set (n12:Int).toNat (.agg (us14.set 2 t11))).set (n17:Int).toNat (.agg (us19.set 3 t16))).set (n22:Int).toNat (.agg (us24.set 4 t21))).set (n27:Int).toNat (.agg (us29.set 5 t26))).set (n32:Int).toNat (.agg (us34.set 6 t31)))[(n37:Int).toNat]?).bind fun e48=>U.asAgg e48 fun us49=>if 7 = sizes (us49.take 7) then (us49[7]?).bind fun e50=>if e50.size = 1 then U.asInt x5 fun n51=>if 9 = 9 ∧ 0 ≤ n51 ∧ n51 < ((((((((((b5000.set (n2:Int).toNat (.agg (us4.set 0 x1))).set (n7:Int).toNat (.agg (us9.set 1 t6))).set (n12:Int).toNat (.agg (us14.set 2 t11))).set (n17:Int).toNat (.agg (us19.set 3 t16))).set (n22:Int).toNat (.agg (us24.set 4 t21))).set (n27:Int).toNat (.agg (us29.set 5 t26))).set (n32:Int).toNat (.agg (us34.set 6 t31))).set (n37:Int).toNat (.agg (us49.set 7 (.sl 2 ys47))))).length:Int) then (((((((((b5000.set (n2:Int).toNat (.agg (us4.set 0 x1))).set (n7:Int).toNat (.agg (us9.set 1 t6))).set (n12:Int).toNat (.agg (us14.set 2 t11))).set (n17:Int).toNat (.agg (us19.set 3 t16))).set (n22:Int).toNat (.agg (us24.set 4 t21))).set (n27:Int).toNat (.agg (us29.set 5 t26))).set (n32:Int).toNat (.agg (us34.set 6 t31))).set (n37:Int).toNat (.agg (us49.set 7 (.sl 2 ys47))))[(n51:Int).toNat]?).bind fun e52=>U.asAgg e52 fun us53=>if 8 = sizes (us53.take 8) then (us53[8]?).bind fun e54=>U.asSlK 2 e54 fun _=>(((((((((b5000.set (n2:Int).toNat (.agg (us4.set 0 x1))).set (n7:Int).toNat (.agg (us9.set 1 t6))).set (n12:Int).toNat (.agg (us14.set 2 t11))).set (n17:Int).toNat (.agg (us19.set 3 t16))).set (n22:Int).toNat (.agg (us24.set 4 t21))).set (n27:Int).toNat (.agg (us29.set 5 t26))).set (n32:Int).toNat (.agg (us34.set 6 t31))).set (n37:Int).toNat (.agg (us49.set 7 (.sl 2 ys47))))[(n51:Int).toNat]?).bind fun e55=>U.asAgg e55 fun us56=>if 8 = sizes (us56.take 8) then (us56[8]?).bind fun e57=>U.asSlK 2 e57 fun _=>U.asSlK 2 e57 fun us58=>(E 200232 (.agg [.tup [.sl 2 us58]] :: [y46])).bind fun t59=>U.asMut 2 t59 fun y60 ys61=>U.asFlat y60 fun y60=>(((((((((b5000.set (n2:Int).toNat (.agg (us4.set 0 x1))).set (n7:Int).toNat (.agg (us9.set 1 t6))).set (n12:Int).toNat (.agg (us14.set 2 t11))).set (n17:Int).toNat (.agg (us19.set 3 t16))).set (n22:Int).toNat (.agg (us24.set 4 t21))).set (n27:Int).toNat (.agg (us29.set 5 t26))).set (n32:Int).toNat (.agg (us34.set 6 t31))).set (n37:Int).toNat (.agg (us49.set 7 (.sl 2 ys47))))[(n51:Int).toNat]?).bind fun e62=>U.asAgg e62 fun us63=>if 8 = sizes (us63.take 8) then (us63[8]?).bind fun e64=>if e64.size = 1 then (U.bin .add x5 (.int .i64 1)).bind fun t65=>f61_l0 E y60 t65 (((((((((b5000.set (n2:Int).toNat (.agg (us4.set 0 x1))).set (n7:Int).toNat (.agg (us9.set 1 t6))).set (n12:Int).toNat (.agg (us14.set 2 t11))).set (n17:Int).toNat (.agg (us19.set 3 t16))).set (n22:Int).toNat (.agg (us24.set 4 t21))).set (n27:Int).toNat (.agg (us29.set 5 t26))).set (n32:Int).toNat (.agg (us34.set 6 t31))).set (n37:Int).toNat (.agg (us49.set 7 (.sl 2 ys47)))).set (n51:Int).toNat (.agg (us63.set 8 (.sl 2 ys61)))) else none else none else none else none else none else none else none else none else none else none else none else none else none else none else none else none else none else none else none else none else none else none else none else none else none else none else none else none else none else none else none else none else none else none else none else none else none else none else none else none else none else none else none else none else none)
 (if (x1:U).flat = true then some (.tup [x1,.sl 9 b5000]) else none):=(Qf E _ _ _ _).trans (by kernel_rfl)
structure G_f61 (E:Env):Prop where
 is:Is E 200318 2 f61_ac [(4,none)]
 c_f60:G_f60 E
 c_f65:G_f65 E
theorem f61_E {E:Env} (h:G_f61 E) (xs0:List U) (a1:U):E 200318 (.agg [.tup [.sl 9 xs0]] :: [a1]) =
 f61_l0 E a1 (.int .i64 0) xs0:=(h.is _ rfl).trans ((Qb5 rfl).trans (by kernel_rfl))
def f59_b0:AC :=
 (.seq (.seq (rg [oo 6 (.mv (.t 5)),
 oo 7 (.mv (.t 0)),
 oo 8 (.len false (.t 7)),
 oo 9 (.bin .lss (.t 6) (.t 8))])
 (.cond (.t 9) .skip (.exit 0)))
 (.seq (.block 1 (.seq (rg [oo 12 (.mv (.t 0)),
 oo 13 (.mv (.t 5)),
 oo 14 (.mv (.t 1)),
 oo 15 (.iaddr 2 (.t 12) (.t 13)),
 oo 16 (.faddr 0 0 (.t 15)),
 ⟨none,.store 1 (.t 16) (.t 14),none⟩])
 (.seq (rg [oo 17 (.mv (.t 1)),
 oo 18 (.bin .add (.t 17) (ci 1)),
 oo 1 (.mv (.t 18))])
 (.seq (rg [oo 19 (.mv (.t 0)),
 oo 20 (.mv (.t 5)),
 oo 21 (.mv (.t 1)),
 oo 22 (.iaddr 2 (.t 19) (.t 20)),
 oo 23 (.faddr 1 1 (.t 22)),
 ⟨none,.store 1 (.t 23) (.t 21),none⟩])
 (rg [oo 24 (.mv (.t 1)),
 oo 25 (.bin .add (.t 24) (ci 1)),
 oo 1 (.mv (.t 25))])))))
 (rg [oo 10 (.mv (.t 5)),
 oo 11 (.bin .add (.t 10) (ci 1)),
 oo 5 (.mv (.t 11))])))
def f59_r0:AC :=
 (.seq (rg [oo 26 (.mv (.t 1)),
 oo 4 (.mv (.t 26))])
 .ret)
def f59_ac:AC :=
 (.seq (rg [oo 4 (.mv (ci 0))])
 (.seq (.seq (rg [oo 5 (.mv (ci 0))])
 (.block 0 (.loop ⟨[0,1,5],[],[(5000,true)]⟩ f59_b0)))
 f59_r0))
noncomputable def f59_l0 (E:Env) (x1:U) (x5:U) (b5000:List U):Option U:=loopK (roundOf E ⟨[0,1,5],[],[(5000,true)]⟩ f59_b0 (blockK 0 (seqK (fun s=>exec E f59_r0 s (finishM 2 [(4,none)])) (finishM 2 [(4,none)])))) ([.ref 5000 [] 2 none,.val x1,.val x5],[.vir (.own (.sl 2 b5000))])
theorem Qmm (E:Env) (x1:U) (x5:U) (b5000:List U):f59_l0 E x1 x5 b5000 =
 (U.bin .lss x5 (.int .i64 (b5000.length:Int))).bind fun t1=>U.asBool t1
 (U.asInt x5 fun n2=>if 2 = 2 ∧ 0 ≤ n2 ∧ n2 < (b5000.length:Int) then if storable (.val x1) = true ∧ x1.size = 1 then (b5000[(n2:Int).toNat]?).bind fun e3=>U.asAgg e3 fun us4=>if 0 = sizes (us4.take 0) then (us4[0]?).bind fun e5=>if e5.size = 1 then if (x1:U).flat = true then (U.bin .add x1 (.int .i64 1)).bind fun t6=>U.asInt x5 fun n7=>if 2 = 2 ∧ 0 ≤ n7 ∧ n7 < (((b5000.set (n2:Int).toNat (.agg (us4.set 0 x1)))).length:Int) then if storable (.val t6) = true ∧ t6.size = 1 then ((b5000.set (n2:Int).toNat (.agg (us4.set 0 x1)))[(n7:Int).toNat]?).bind fun e8=>U.asAgg e8 fun us9=>if 1 = sizes (us9.take 1) then (us9[1]?).bind fun e10=>if e10.size = 1 then if (t6:U).flat = true then (U.bin .add t6 (.int .i64 1)).bind fun t11=>(U.bin .add x5 (.int .i64 1)).bind fun t12=>f59_l0 E t11 t12 ((b5000.set (n2:Int).toNat (.agg (us4.set 0 x1))).set (n7:Int).toNat (.agg (us9.set 1 t6))) else none else none else none else none else none else none else none else none else none else none)
 (if (x1:U).flat = true then some (.tup [x1,.sl 2 b5000]) else none):=(Qf E _ _ _ _).trans (by kernel_rfl)
structure G_f59 (E:Env):Prop where
 is:Is E 200317 2 f59_ac [(4,none)]
theorem f59_E {E:Env} (h:G_f59 E) (xs0:List U) (a1:U):E 200317 (.agg [.tup [.sl 2 xs0]] :: [a1]) =
 f59_l0 E a1 (.int .i64 0) xs0:=(h.is _ rfl).trans ((Qb5 rfl).trans (by kernel_rfl))
def f64_b0:AC :=
 (.seq (.seq (rg [oo 6 (.mv (.t 5)),
 oo 7 (.mv (.t 0)),
 oo 8 (.len false (.t 7)),
 oo 9 (.bin .lss (.t 6) (.t 8))])
 (.cond (.t 9) .skip (.exit 0)))
 (.seq (.block 1 (.seq (rg [oo 12 (.mv (.t 0)),
 oo 13 (.mv (.t 5)),
 oo 14 (.mv (.t 1)),
 oo 15 (.iaddr 2 (.t 12) (.t 13)),
 oo 16 (.faddr 0 0 (.t 15)),
 ⟨none,.store 1 (.t 16) (.t 14),none⟩])
 (.seq (rg [oo 17 (.mv (.t 1)),
 oo 18 (.bin .add (.t 17) (ci 1)),
 oo 1 (.mv (.t 18))])
 (.seq (rg [oo 19 (.mv (.t 0)),
 oo 20 (.mv (.t 5)),
 oo 21 (.mv (.t 1)),
 oo 22 (.iaddr 2 (.t 19) (.t 20)),
 oo 23 (.faddr 1 1 (.t 22)),
 ⟨none,.store 1 (.t 23) (.t 21),none⟩])
 (rg [oo 24 (.mv (.t 1)),
 oo 25 (.bin .add (.t 24) (ci 1)),
 oo 1 (.mv (.t 25))])))))
 (rg [oo 10 (.mv (.t 5)),
 oo 11 (.bin .add (.t 10) (ci 1)),
 oo 5 (.mv (.t 11))])))
def f64_r0:AC :=
 (.seq (rg [oo 26 (.mv (.t 1)),
 oo 4 (.mv (.t 26))])
 .ret)
def f64_ac:AC :=
 (.seq (rg [oo 4 (.mv (ci 0))])
 (.seq (.seq (rg [oo 5 (.mv (ci 0))])
 (.block 0 (.loop ⟨[0,1,5],[],[(5000,true)]⟩ f64_b0)))
 f64_r0))
noncomputable def f64_l0 (E:Env) (x1:U) (x5:U) (b5000:List U):Option U:=loopK (roundOf E ⟨[0,1,5],[],[(5000,true)]⟩ f64_b0 (blockK 0 (seqK (fun s=>exec E f64_r0 s (finishM 2 [(4,none)])) (finishM 2 [(4,none)])))) ([.ref 5000 [] 2 none,.val x1,.val x5],[.vir (.own (.sl 2 b5000))])
theorem Qmy (E:Env) (x1:U) (x5:U) (b5000:List U):f64_l0 E x1 x5 b5000 =
 (U.bin .lss x5 (.int .i64 (b5000.length:Int))).bind fun t1=>U.asBool t1
 (U.asInt x5 fun n2=>if 2 = 2 ∧ 0 ≤ n2 ∧ n2 < (b5000.length:Int) then if storable (.val x1) = true ∧ x1.size = 1 then (b5000[(n2:Int).toNat]?).bind fun e3=>U.asAgg e3 fun us4=>if 0 = sizes (us4.take 0) then (us4[0]?).bind fun e5=>if e5.size = 1 then if (x1:U).flat = true then (U.bin .add x1 (.int .i64 1)).bind fun t6=>U.asInt x5 fun n7=>if 2 = 2 ∧ 0 ≤ n7 ∧ n7 < (((b5000.set (n2:Int).toNat (.agg (us4.set 0 x1)))).length:Int) then if storable (.val t6) = true ∧ t6.size = 1 then ((b5000.set (n2:Int).toNat (.agg (us4.set 0 x1)))[(n7:Int).toNat]?).bind fun e8=>U.asAgg e8 fun us9=>if 1 = sizes (us9.take 1) then (us9[1]?).bind fun e10=>if e10.size = 1 then if (t6:U).flat = true then (U.bin .add t6 (.int .i64 1)).bind fun t11=>(U.bin .add x5 (.int .i64 1)).bind fun t12=>f64_l0 E t11 t12 ((b5000.set (n2:Int).toNat (.agg (us4.set 0 x1))).set (n7:Int).toNat (.agg (us9.set 1 t6))) else none else none else none else none else none else none else none else none else none else none)
 (if (x1:U).flat = true then some (.tup [x1,.sl 2 b5000]) else none):=(Qf E _ _ _ _).trans (by kernel_rfl)
structure G_f64 (E:Env):Prop where
 is:Is E 200316 2 f64_ac [(4,none)]
theorem f64_E {E:Env} (h:G_f64 E) (xs0:List U) (a1:U):E 200316 (.agg [.tup [.sl 2 xs0]] :: [a1]) =
 f64_l0 E a1 (.int .i64 0) xs0:=(h.is _ rfl).trans ((Qb5 rfl).trans (by kernel_rfl))
def f63_b0:AC :=
 (.seq (.seq (rg [oo 6 (.mv (.t 5)),
 oo 7 (.mv (.t 0)),
 oo 8 (.len false (.t 7)),
 oo 9 (.bin .lss (.t 6) (.t 8))])
 (.cond (.t 9) .skip (.exit 0)))
 (.seq (.block 1 (.seq (rg [oo 12 (.mv (.t 0)),
 oo 13 (.mv (.t 5)),
 oo 14 (.mv (.t 1)),
 oo 15 (.iaddr 5 (.t 12) (.t 13)),
 oo 16 (.faddr 0 0 (.t 15)),
 ⟨none,.store 1 (.t 16) (.t 14),none⟩])
 (.seq (rg [oo 17 (.mv (.t 1)),
 oo 18 (.bin .add (.t 17) (ci 1)),
 oo 1 (.mv (.t 18))])
 (.seq (rg [oo 19 (.mv (.t 0)),
 oo 20 (.mv (.t 5)),
 oo 21 (.mv (.t 1)),
 oo 22 (.iaddr 5 (.t 19) (.t 20)),
 oo 23 (.faddr 1 1 (.t 22)),
 ⟨none,.store 1 (.t 23) (.t 21),none⟩])
 (.seq (rg [oo 24 (.mv (.t 1)),
 oo 25 (.bin .add (.t 24) (ci 1)),
 oo 1 (.mv (.t 25))])
 (.seq (rg [oo 26 (.mv (.t 0)),
 oo 27 (.mv (.t 5)),
 oo 28 (.mv (.t 1)),
 oo 29 (.iaddr 5 (.t 26) (.t 27)),
 oo 30 (.faddr 2 2 (.t 29)),
 ⟨none,.store 1 (.t 30) (.t 28),none⟩])
 (.seq (rg [oo 31 (.mv (.t 1)),
 oo 32 (.bin .add (.t 31) (ci 1)),
 oo 1 (.mv (.t 32))])
 (.seq (rg [oo 33 (.mv (.t 0)),
 oo 34 (.mv (.t 5)),
 oo 35 (.mv (.t 1)),
 oo 36 (.iaddr 5 (.t 33) (.t 34)),
 oo 37 (.faddr 3 3 (.t 36)),
 ⟨none,.store 1 (.t 37) (.t 35),none⟩])
 (.seq (rg [oo 38 (.mv (.t 1)),
 oo 39 (.bin .add (.t 38) (ci 1)),
 oo 1 (.mv (.t 39))])
 (.seq (rg [oo 40 (.mv (.t 0)),
 oo 41 (.mv (.t 5)),
 oo 42 (.mv (.t 1)),
 oo 43 (.iaddr 5 (.t 40) (.t 41)),
 oo 44 (.faddr 4 4 (.t 43)),
 ⟨none,.store 1 (.t 44) (.t 42),none⟩])
 (rg [oo 45 (.mv (.t 1)),
 oo 46 (.bin .add (.t 45) (ci 1)),
 oo 1 (.mv (.t 46))])))))))))))
 (rg [oo 10 (.mv (.t 5)),
 oo 11 (.bin .add (.t 10) (ci 1)),
 oo 5 (.mv (.t 11))])))
def f63_r0:AC :=
 (.seq (rg [oo 47 (.mv (.t 1)),
 oo 4 (.mv (.t 47))])
 .ret)
def f63_ac:AC :=
 (.seq (rg [oo 4 (.mv (ci 0))])
 (.seq (.seq (rg [oo 5 (.mv (ci 0))])
 (.block 0 (.loop ⟨[0,1,5],[],[(5000,true)]⟩ f63_b0)))
 f63_r0))
noncomputable def f63_l0 (E:Env) (x1:U) (x5:U) (b5000:List U):Option U:=loopK (roundOf E ⟨[0,1,5],[],[(5000,true)]⟩ f63_b0 (blockK 0 (seqK (fun s=>exec E f63_r0 s (finishM 5 [(4,none)])) (finishM 5 [(4,none)])))) ([.ref 5000 [] 5 none,.val x1,.val x5],[.vir (.own (.sl 5 b5000))])
theorem Qmw (E:Env) (x1:U) (x5:U) (b5000:List U):f63_l0 E x1 x5 b5000 =
 (U.bin .lss x5 (.int .i64 (b5000.length:Int))).bind fun t1=>U.asBool t1
 (U.asInt x5 fun n2=>if 5 = 5 ∧ 0 ≤ n2 ∧ n2 < (b5000.length:Int) then if storable (.val x1) = true ∧ x1.size = 1 then (b5000[(n2:Int).toNat]?).bind fun e3=>U.asAgg e3 fun us4=>if 0 = sizes (us4.take 0) then (us4[0]?).bind fun e5=>if e5.size = 1 then if (x1:U).flat = true then (U.bin .add x1 (.int .i64 1)).bind fun t6=>U.asInt x5 fun n7=>if 5 = 5 ∧ 0 ≤ n7 ∧ n7 < (((b5000.set (n2:Int).toNat (.agg (us4.set 0 x1)))).length:Int) then if storable (.val t6) = true ∧ t6.size = 1 then ((b5000.set (n2:Int).toNat (.agg (us4.set 0 x1)))[(n7:Int).toNat]?).bind fun e8=>U.asAgg e8 fun us9=>if 1 = sizes (us9.take 1) then (us9[1]?).bind fun e10=>if e10.size = 1 then if (t6:U).flat = true then (U.bin .add t6 (.int .i64 1)).bind fun t11=>U.asInt x5 fun n12=>if 5 = 5 ∧ 0 ≤ n12 ∧ n12 < ((((b5000.set (n2:Int).toNat (.agg (us4.set 0 x1))).set (n7:Int).toNat (.agg (us9.set 1 t6)))).length:Int) then if storable (.val t11) = true ∧ t11.size = 1 then (((b5000.set (n2:Int).toNat (.agg (us4.set 0 x1))).set (n7:Int).toNat (.agg (us9.set 1 t6)))[(n12:Int).toNat]?).bind fun e13=>U.asAgg e13 fun us14=>if 2 = sizes (us14.take 2) then (us14[2]?).bind fun e15=>if e15.size = 1 then if (t11:U).flat = true then (U.bin .add t11 (.int .i64 1)).bind fun t16=>U.asInt x5 fun n17=>if 5 = 5 ∧ 0 ≤ n17 ∧ n17 < (((((b5000.set (n2:Int).toNat (.agg (us4.set 0 x1))).set (n7:Int).toNat (.agg (us9.set 1 t6))).set (n12:Int).toNat (.agg (us14.set 2 t11)))).length:Int) then if storable (.val t16) = true ∧ t16.size = 1 then ((((b5000.set (n2:Int).toNat (.agg (us4.set 0 x1))).set (n7:Int).toNat (.agg (us9.set 1 t6))).set (n12:Int).toNat (.agg (us14.set 2 t11)))[(n17:Int).toNat]?).bind fun e18=>U.asAgg e18 fun us19=>if 3 = sizes (us19.take 3) then (us19[3]?).bind fun e20=>if e20.size = 1 then if (t16:U).flat = true then (U.bin .add t16 (.int .i64 1)).bind fun t21=>U.asInt x5 fun n22=>if 5 = 5 ∧ 0 ≤ n22 ∧ n22 < ((((((b5000.set (n2:Int).toNat (.agg (us4.set 0 x1))).set (n7:Int).toNat (.agg (us9.set 1 t6))).set (n12:Int).toNat (.agg (us14.set 2 t11))).set (n17:Int).toNat (.agg (us19.set 3 t16)))).length:Int) then if storable (.val t21) = true ∧ t21.size = 1 then (((((b5000.set (n2:Int).toNat (.agg (us4.set 0 x1))).set (n7:Int).toNat (.agg (us9.set 1 t6))).set (n12:Int).toNat (.agg (us14.set 2 t11))).set (n17:Int).toNat (.agg (us19.set 3 t16)))[(n22:Int).toNat]?).bind fun e23=>U.asAgg e23 fun us24=>if 4 = sizes (us24.take 4) then (us24[4]?).bind fun e25=>if e25.size = 1 then if (t21:U).flat = true then (U.bin .add t21 (.int .i64 1)).bind fun t26=>(U.bin .add x5 (.int .i64 1)).bind fun t27=>f63_l0 E t26 t27 (((((b5000.set (n2:Int).toNat (.agg (us4.set 0 x1))).set (n7:Int).toNat (.agg (us9.set 1 t6))).set (n12:Int).toNat (.agg (us14.set 2 t11))).set (n17:Int).toNat (.agg (us19.set 3 t16))).set (n22:Int).toNat (.agg (us24.set 4 t21))) else none else none else none else none else none else none else none else none else none else none else none else none else none else none else none else none else none else none else none else none else none else none else none else none else none)
 (if (x1:U).flat = true then some (.tup [x1,.sl 5 b5000]) else none):=(Qf E _ _ _ _).trans (by kernel_rfl)
structure G_f63 (E:Env):Prop where
 is:Is E 200122 2 f63_ac [(4,none)]
theorem f63_E {E:Env} (h:G_f63 E) (xs0:List U) (a1:U):E 200122 (.agg [.tup [.sl 5 xs0]] :: [a1]) =
 f63_l0 E a1 (.int .i64 0) xs0:=(h.is _ rfl).trans ((Qb5 rfl).trans (by kernel_rfl))
def f62_b0:AC :=
 (.seq (.seq (rg [oo 6 (.mv (.t 5)),
 oo 7 (.mv (.t 0)),
 oo 8 (.len false (.t 7)),
 oo 9 (.bin .lss (.t 6) (.t 8))])
 (.cond (.t 9) .skip (.exit 0)))
 (.seq (.block 1 (rg [oo 12 (.mv (.t 0)),
 oo 13 (.mv (.t 5)),
 oo 14 (.iaddr 1 (.t 12) (.t 13)),
 oo 15 (.loadO (.sl 5) (.t 14)),
 oo 16 (.mv (.t 1)),
 oo 17 (.callM 5 122 (.t 15) [(.t 16)]),
 oo 1 (.mv (.t 17))]))
 (rg [oo 10 (.mv (.t 5)),
 oo 11 (.bin .add (.t 10) (ci 1)),
 oo 5 (.mv (.t 11))])))
def f62_r0:AC :=
 (.seq (rg [oo 18 (.mv (.t 1)),
 oo 4 (.mv (.t 18))])
 .ret)
def f62_ac:AC :=
 (.seq (rg [oo 4 (.mv (ci 0))])
 (.seq (.seq (rg [oo 5 (.mv (ci 0))])
 (.block 0 (.loop ⟨[0,1,5],[],[(5000,true)]⟩ f62_b0)))
 f62_r0))
noncomputable def f62_l0 (E:Env) (x1:U) (x5:U) (b5000:List U):Option U:=loopK (roundOf E ⟨[0,1,5],[],[(5000,true)]⟩ f62_b0 (blockK 0 (seqK (fun s=>exec E f62_r0 s (finishM 1 [(4,none)])) (finishM 1 [(4,none)])))) ([.ref 5000 [] 1 none,.val x1,.val x5],[.vir (.own (.sl 1 b5000))])
theorem Qmu (E:Env) (x1:U) (x5:U) (b5000:List U):f62_l0 E x1 x5 b5000 =
 (U.bin .lss x5 (.int .i64 (b5000.length:Int))).bind fun t1=>U.asBool t1
 (U.asInt x5 fun n2=>if 1 = 1 ∧ 0 ≤ n2 ∧ n2 < (b5000.length:Int) then (b5000[(n2:Int).toNat]?).bind fun e3=>U.asSlK 5 e3 fun _=>(b5000[(n2:Int).toNat]?).bind fun e4=>U.asSlK 5 e4 fun _=>U.asSlK 5 e4 fun us5=>(E 200122 (.agg [.tup [.sl 5 us5]] :: [x1])).bind fun t6=>U.asMut 5 t6 fun y7 ys8=>U.asFlat y7 fun y7=>(b5000[(n2:Int).toNat]?).bind fun e9=>if e9.size = 1 then (U.bin .add x5 (.int .i64 1)).bind fun t10=>f62_l0 E y7 t10 (b5000.set (n2:Int).toNat (.sl 5 ys8)) else none else none)
 (if (x1:U).flat = true then some (.tup [x1,.sl 1 b5000]) else none):=(Qf E _ _ _ _).trans (by kernel_rfl)
structure G_f62 (E:Env):Prop where
 is:Is E 200121 2 f62_ac [(4,none)]
 c_f63:G_f63 E
theorem f62_E {E:Env} (h:G_f62 E) (xs0:List U) (a1:U):E 200121 (.agg [.tup [.sl 1 xs0]] :: [a1]) =
 f62_l0 E a1 (.int .i64 0) xs0:=(h.is _ rfl).trans ((Qb5 rfl).trans (by kernel_rfl))
def f37_i0_r0:AC :=
 (rg [oo 70 (.mv (.t 77))])
def f37_r0:AC :=
 (rg [oo 7 (.mv (.t 34))])
def f37_ac:AC :=
 (.seq (rg [oo 1 (.box false 1 (.t 0)),
 oo 2 (.mv (.c (.bool false)))])
 (.seq (rg [oo 3 (.mv (ci 1048576))])
 (.seq (rg [oo 11 (.load true 6 (.t 1)),
 oo 12 (.mv (.t 3)),
 oo 13 (.call false 128 [(.t 11),(.t 12)]),
 oo 3 (.mv (.t 13))])
 (.seq (.seq (rg [oo 14 (.mv (.t 3)),
 oo 15 (.bin .lss (.t 14) (ci 0))])
 (.cond (.t 15) (.seq (rg [oo 2 (.mv (.c (.bool true)))])
 .ret) .skip))
 (.seq (rg [oo 16 (.load true 6 (.t 1)),
 oo 17 (.call false 124 [(.t 16)]),
 oo 18 (.call false 470 [(.t 17)]),
 oo 4 (.mv (.t 18))])
 (.seq (rg [oo 19 (.load true 6 (.t 1)),
 oo 20 (.callF 20 false [(.agg [.bool,(.agg [(.sl 1)]),(.sl 9),(.sl 2),(.sl 2),.int])] 124 [(.t 19)]),
 oo 5 (.alloc 5 (.agg [(.bool false),(.agg [(.nsl 1)]),(.nsl 9),(.nsl 2),(.nsl 2),(.int .i64 0)])),
 ⟨none,.storeM 3000 6 (.t 5) (.t 20),none⟩])
 (.seq (rg [oo 21 (.loadO (.agg [.bool,(.agg [(.sl 1)]),(.sl 9),(.sl 2),(.sl 2),.int]) (.t 5)),
 oo 22 (.callF 22 false [(.sl 4)] 469 [(.t 21)]),
 oo 6 (.mv (.t 22))])
 (.seq (.seq (rg [oo 23 (.mv (.t 6)),
 oo 24 (.mv (.t 4)),
 oo 25 (.call false 46 [(.t 23),(.t 24)]),
 oo 26 (.un .not (.t 25))])
 (.cond (.t 26) (.seq (rg [oo 2 (.mv (.c (.bool false)))])
 .ret) .skip))
 (.seq (.seq (.region 5 [oo 27 (.loadO (.agg [.bool,(.agg [(.sl 1)]),(.sl 9),(.sl 2),(.sl 2),.int]) (.t 5)),
 oo 28 (.load true 6 (.t 1)),
 oo 29 (.call false 124 [(.t 28)]),
 oo 30 (.call false 125 [(.t 27),(.t 29)]),
 oo 31 (.un .not (.t 30))])
 (.cond (.t 31) (.seq (rg [oo 2 (.mv (.c (.bool false)))])
 .ret) .skip))
 (.seq (rg [oo 7 (.mv (ci 1))])
 (.seq (.regI 0 [oo 32 (.loadO (.agg [.bool,(.agg [(.sl 1)]),(.sl 9),(.sl 2),(.sl 2),.int]) (.t 5)),
 oo 33 (.mv (.t 7))] ⟨some 34,69,22,315,[(.t 32),(.t 33)],[4]⟩ (.seq (rg [oo 71 (.boxS 71 (.t 69)),
 oo 73 (.mv (ci 0))])
 (.seq (.regI 0 [oo 74 (.faddr 1 1 (.t 71)),
 oo 75 (.loadO (.agg [(.sl 1)]) (.t 74)),
 oo 76 (.mv (.t 70))] ⟨some 77,91,10,96,[(.t 75),(.t 76)],[4]⟩ (.seq (rg [oo 93 (.boxS 93 (.t 91)),
 oo 95 (.mv (ci 0))])
 (.seq (rg [oo 96 (.faddr 0 0 (.t 93)),
 oo 97 (.load false 1 (.t 96)),
 oo 98 (.mv (.t 92)),
 oo 99 (.callM 1 121 (.t 97) [(.t 98)]),
 oo 92 (.mv (.t 99))])
 (.seq (rg [oo 100 (.mv (.t 92)),
 oo 95 (.mv (.t 100))])
 .ret))) f37_i0_r0)
 (.seq (rg [oo 78 (.faddr 2 2 (.t 71)),
 oo 79 (.load false 1 (.t 78)),
 oo 80 (.mv (.t 70)),
 oo 81 (.callM 9 318 (.t 79) [(.t 80)]),
 oo 70 (.mv (.t 81))])
 (.seq (rg [oo 82 (.faddr 3 3 (.t 71)),
 oo 83 (.load false 1 (.t 82)),
 oo 84 (.mv (.t 70)),
 oo 85 (.callM 2 317 (.t 83) [(.t 84)]),
 oo 70 (.mv (.t 85))])
 (.seq (rg [oo 86 (.faddr 4 4 (.t 71)),
 oo 87 (.load false 1 (.t 86)),
 oo 88 (.mv (.t 70)),
 oo 89 (.callM 2 316 (.t 87) [(.t 88)]),
 oo 70 (.mv (.t 89))])
 (.seq (rg [oo 90 (.mv (.t 70)),
 oo 73 (.mv (.t 90))])
 .ret)))))) f37_r0)
 (.seq (.seq (rg [oo 35 (.mv (.t 7)),
 oo 36 (.bin .lss (.t 35) (ci 0)),
 oo 37 (.mv (.t 36)),
 ⟨some 38,.mv (.t 6),some (37,false)⟩,
 ⟨some 39,.mv (.t 4),some (37,false)⟩,
 ⟨some 40,.call false 46 [(.t 38),(.t 39)],some (37,false)⟩,
 ⟨some 41,.un .not (.t 40),some (37,false)⟩,
 oo 42 (.pick (.t 37) (.c (.bool true)) (.t 41))])
 (.cond (.t 42) (.seq (rg [oo 2 (.mv (.c (.bool false)))])
 .ret) .skip))
 (.seq (rg [oo 8 (.mv (ci 1))])
 (.seq (rg [oo 43 (.mv (.t 6)),
 oo 44 (.mv (.t 8)),
 oo 45 (.callM 4 287 (.t 43) [(.t 44)]),
 oo 8 (.mv (.t 45))])
 (.seq (rg [oo 9 (.mv (ci 1))])
 (.seq (rg [oo 46 (.mv (.t 6)),
 oo 47 (.mv (.t 9)),
 oo 48 (.call false 285 [(.t 46),(.t 47)]),
 oo 9 (.mv (.t 48))])
 (.seq (.seq (rg [oo 49 (.mv (.t 9)),
 oo 50 (.bin .lss (.t 49) (ci 0))])
 (.cond (.t 50) (.seq (rg [oo 2 (.mv (.c (.bool false)))])
 .ret) .skip))
 (.seq (.seq (rg [oo 51 (.mv (.t 9)),
 oo 52 (.mv (.t 8)),
 oo 53 (.bin .neq (.t 51) (.t 52))])
 (.cond (.t 53) (.seq (rg [oo 2 (.mv (.c (.bool false)))])
 .ret) .skip))
 (.seq (rg [oo 54 (.load true 6 (.t 1)),
 oo 55 (.call false 124 [(.t 54)]),
 oo 56 (.call false 469 [(.t 55)]),
 oo 10 (.mv (.t 56))])
 (.seq (.seq (rg [oo 57 (.mv (.t 10)),
 oo 58 (.mv (.t 4)),
 oo 59 (.call false 46 [(.t 57),(.t 58)]),
 oo 60 (.un .not (.t 59))])
 (.cond (.t 60) (.seq (rg [oo 2 (.mv (.c (.bool false)))])
 .ret) .skip))
 (.seq (rg [oo 9 (.mv (ci 1))])
 (.seq (rg [oo 61 (.mv (.t 6)),
 oo 62 (.mv (.t 9)),
 oo 63 (.call false 285 [(.t 61),(.t 62)]),
 oo 9 (.mv (.t 63))])
 (.seq (.seq (rg [oo 64 (.mv (.t 9)),
 oo 65 (.bin .lss (.t 64) (ci 0))])
 (.cond (.t 65) (.seq (rg [oo 2 (.mv (.c (.bool false)))])
 .ret) .skip))
 (.seq (.seq (rg [oo 66 (.mv (.t 9)),
 oo 67 (.mv (.t 8)),
 oo 68 (.bin .neq (.t 66) (.t 67))])
 (.cond (.t 68) (.seq (rg [oo 2 (.mv (.c (.bool false)))])
 .ret) .skip))
 (.seq (rg [oo 2 (.mv (.c (.bool true)))])
 .ret)))))))))))))))))))))))))
structure G_f37 (E:Env):Prop where
 is:Is E 468 1 f37_ac [(2,none)]
 c_f40:G_f40 E
 c_f66:G_f66 E
 c_f123:G_f123 E
 c_f78:G_f78 E
 c_f11:G_f11 E
 c_f38:G_f38 E
 c_f55:G_f55 E
 c_f79:G_f79 E
 c_f13:G_f13 E
 c_f58:G_f58 E
 c_f61:G_f61 E
 c_f59:G_f59 E
 c_f64:G_f64 E
 c_f62:G_f62 E
theorem f37_E {E:Env} (h:G_f37 E) (a0:U):E 468 [a0] =
 U.noTup a0 fun x1=>U.asVar true 6 x1 fun e2=>(E 128 [e2,(.int .i64 1048576)]).bind fun t3=>(U.bin .lss t3 (.int .i64 0)).bind fun t4=>U.asBool t4
 (some (.bool true))
 (U.asVar true 6 x1 fun e5=>(E 124 [e5]).bind fun t6=>(E 470 [t6]).bind fun t7=>U.asVar true 6 x1 fun e8=>(E 100124 [e8]).bind fun t9=>U.noTup t9 fun x10=>U.asAgg x10 fun us11=>(match us11 with
 | u12 :: us13=>(U.asB u12 fun b14=>(match us13 with
 | u15 :: us16=>(U.asAgg u15 fun us17=>(match us17 with
 | u18 :: us19=>(U.asSlK 1 u18 fun us20=>(match us19 with
 | []=>((match us16 with
 | u21 :: us22=>(U.asSlK 9 u21 fun us23=>(match us22 with
 | u24 :: us25=>(U.asSlK 2 u24 fun us26=>(match us25 with
 | u27 :: us28=>(U.asSlK 2 u27 fun us29=>(match us28 with
 | u30 :: us31=>(U.asInt u30 fun n32=>(match us31 with
 | []=>((E 100469 [(.agg [(.bool b14),(.agg [(.sl 1 us20)]),(.sl 9 us23),(.sl 2 us26),(.sl 2 us29),(.int .i64 n32)])]).bind fun t33=>U.noTup t33 fun x34=>U.asSlK 4 x34 fun us35=>(E 46 [(.sl 4 us35),t7]).bind fun t36=>U.asFlat t36 fun t37=>(U.un .not t37).bind fun t38=>U.asBool t38
 (some (.bool false))
 (U.asVar true 6 x1 fun e39=>(E 124 [e39]).bind fun t40=>(E 125 [(.agg [(.bool b14),(.agg [(.sl 1 us20)]),(.sl 9 us23),(.sl 2 us26),(.sl 2 us29),(.int .i64 n32)]),t40]).bind fun t41=>U.asFlat t41 fun t42=>(U.un .not t42).bind fun t43=>U.asBool t43
 (some (.bool false))
 (if 1 = 1 then (E 200121 (.agg [.tup [.sl 1 us20]] :: [(.int .i64 1)])).bind fun t44=>U.asMut 1 t44 fun y45 ys46=>U.asFlat y45 fun y45=>if partable (.val y45) = true then (E 200318 (.agg [.tup [.sl 9 us23]] :: [y45])).bind fun t47=>U.asMut 9 t47 fun y48 ys49=>U.asFlat y48 fun y48=>(E 200317 (.agg [.tup [.sl 2 us26]] :: [y48])).bind fun t50=>U.asMut 2 t50 fun y51 ys52=>U.asFlat y51 fun y51=>(E 200316 (.agg [.tup [.sl 2 us29]] :: [y51])).bind fun t53=>U.asMut 2 t53 fun y54 ys55=>U.asFlat y54 fun y54=>if partable (.val y54) = true then (U.bin .lss y54 (.int .i64 0)).bind fun t56=>U.asBool t56
 (some (.bool false))
 ((E 46 [(.sl 4 us35),t7]).bind fun t57=>U.asFlat t57 fun t58=>(U.un .not t58).bind fun t59=>U.asBool t59
 (some (.bool false))
 ((E 200287 (.agg [.tup [.sl 4 us35]] :: [(.int .i64 1)])).bind fun t60=>U.asMut 4 t60 fun y61 ys62=>U.asFlat y61 fun y61=>(E 285 [(.sl 4 ys62),(.int .i64 1)]).bind fun t63=>U.asFlat t63 fun t64=>(U.bin .lss t64 (.int .i64 0)).bind fun t65=>U.asBool t65
 (some (.bool false))
 ((U.bin .neq t64 y61).bind fun t66=>U.asBool t66
 (some (.bool false))
 (U.asVar true 6 x1 fun e67=>(E 124 [e67]).bind fun t68=>(E 469 [t68]).bind fun t69=>(E 46 [t69,t7]).bind fun t70=>(U.un .not t70).bind fun t71=>U.asBool t71
 (some (.bool false))
 ((E 285 [(.sl 4 ys62),(.int .i64 1)]).bind fun t72=>U.asFlat t72 fun t73=>(U.bin .lss t73 (.int .i64 0)).bind fun t74=>U.asBool t74
 (some (.bool false))
 ((U.bin .neq t73 y61).bind fun t75=>U.asBool t75
 (some (.bool false))
 (some (.bool true)))))))) else none else none else none)))
 | _=>none))
 | []=>none))
 | []=>none))
 | []=>none))
 | []=>none))
 | _=>none))
 | []=>none))
 | []=>none))
 | []=>none)):=(h.is _ rfl).trans ((Qa rfl).trans (by kernel_rfl))
end Go.Proofs.YtlgblpngiamhaaaGreat.Am
