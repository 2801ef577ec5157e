import Derived.KernelRfl
import Derived.Test.YtlmnkhlkccipfaaIsSerialOrderF0
import Derived.Test.YtlmnkhlkccipfaaAmW
import Derived.Test.YtlmnkhlkccipfaaAmSo
namespace Go.Proofs.Ytlmnkhlkccipfaa.Am
open Go
set_option linter.unusedVariables false
set_option maxRecDepth 100000
def f30_ac : AC :=
 (.seq (rg [oo 4 (.mv (.c (.bool false)))])
 (.seq (.seq (rg [oo 10 (.mv (.t 1)),
  oo 11 (.len false (.t 10)),
  oo 12 (.bin .gtr (.t 11) (ci 1048576))])
 (.cond (.t 12) (.seq (rg [oo 4 (.mv (.c (.bool true)))])
 .ret) .skip))
 (.seq (rg [oo 5 (.mv (ci 1048576))])
 (.seq (rg [oo 13 (.mv (.t 0)),
  oo 14 (.mv (.t 5)),
  oo 15 (.call false 49 [(.t 13), (.t 14)]),
  oo 5 (.mv (.t 15))])
 (.seq (.seq (rg [oo 16 (.mv (.t 5)),
  oo 17 (.bin .lss (.t 16) (ci 0))])
 (.cond (.t 17) (.seq (rg [oo 4 (.mv (.c (.bool true)))])
 .ret) .skip))
 (.seq (rg [oo 18 (.mv (.t 0)),
  oo 19 (.call false 45 [(.t 18)]),
  oo 20 (.mv (.t 1)),
  oo 21 (.call false 58 [(.t 20)]),
  oo 22 (.call false 431 [(.t 19), (.t 21)]),
  oo 6 (.mv (.t 22))])
 (.seq (rg [oo 23 (.mv (.t 0)),
  oo 24 (.call false 45 [(.t 23)]),
  oo 7 (.mv (.t 24))])
 (.seq (rg [oo 25 (.mv (.t 1)),
  oo 26 (.call false 58 [(.t 25)]),
  oo 8 (.mv (.t 26))])
 (.seq (rg [oo 27 (.mv (.t 7)),
  oo 28 (.mv (.t 8)),
  oo 29 (.call false 430 [(.t 27), (.t 28)]),
  oo 9 (.mv (.t 29))])
 (.seq (.seq (rg [oo 30 (.mv (.t 9)),
  oo 31 (.mv (.t 6)),
  oo 32 (.eqv true 0 (.t 30) (.t 31))])
 (.cond (.t 32) (.seq (rg [oo 4 (.mv (.c (.bool false)))])
 .ret) .skip))
 (.seq (.seq (rg [oo 33 (.mv (.t 7)),
  oo 34 (.mv (.t 0)),
  oo 35 (.call false 45 [(.t 34)]),
  oo 36 (.call false 46 [(.t 33), (.t 35)]),
  oo 37 (.un .not (.t 36))])
 (.cond (.t 37) (.seq (rg [oo 4 (.mv (.c (.bool false)))])
 .ret) .skip))
 (.seq (.seq (rg [oo 38 (.mv (.t 8)),
  oo 39 (.mv (.t 1)),
  oo 40 (.call false 58 [(.t 39)]),
  oo 41 (.call false 59 [(.t 38), (.t 40)]),
  oo 42 (.un .not (.t 41))])
 (.cond (.t 42) (.seq (rg [oo 4 (.mv (.c (.bool false)))])
 .ret) .skip))
 (.seq (rg [oo 4 (.mv (.c (.bool true)))])
 .ret)))))))))))))
structure G_f30 (E : Env) : Prop where
  is : Is E 429 2 f30_ac [(4, none)]
  c_f39 : G_f39 E
  c_f43 : G_f43 E
  c_f32 : G_f32 E
  c_f61 : G_f61 E
  c_f44 : G_f44 E
  c_f10 : G_f10 E
  c_f33 : G_f33 E
theorem f30_E {E : Env} (h : G_f30 E) (a0 a1 : U) : E 429 [a0, a1] =
 (U.lenOf false a1).bind fun n1 => (U.bin .gtr (.int .i64 (n1 : Int)) (.int .i64 1048576)).bind fun t2 => U.asBool t2
 (some (.bool true))
 ((E 49 [a0, (.int .i64 1048576)]).bind fun t3 => (U.bin .lss t3 (.int .i64 0)).bind fun t4 => U.asBool t4
 (some (.bool true))
 ((E 45 [a0]).bind fun t5 => (E 58 [a1]).bind fun t6 => (E 431 [t5, t6]).bind fun t7 => (E 45 [a0]).bind fun t8 => (E 58 [a1]).bind fun t9 => (E 430 [t8, t9]).bind fun t10 => (U.eqv 0 t10 t7).bind fun q11 => U.asBool (.bool (!q11))
 (some (.bool false))
 ((E 45 [a0]).bind fun t12 => (E 46 [t8, t12]).bind fun t13 => (U.un .not t13).bind fun t14 => U.asBool t14
 (some (.bool false))
 ((E 58 [a1]).bind fun t15 => (E 59 [t9, t15]).bind fun t16 => (U.un .not t16).bind fun t17 => U.asBool t17
 (some (.bool false))
 (some (.bool true)))))) := (h.is _ rfl).trans ((runQ_V rfl).trans (by kernel_rfl))
end Go.Proofs.Ytlmnkhlkccipfaa.Am
