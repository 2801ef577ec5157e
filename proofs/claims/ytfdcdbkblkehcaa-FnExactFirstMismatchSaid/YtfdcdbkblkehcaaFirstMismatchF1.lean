import Derived.KernelRfl
import Derived.Test.YtfdcdbkblkehcaaFirstMismatchF0
import Derived.Test.YtfdcdbkblkehcaaAmW
namespace Go.Proofs.Ytfdcdbkblkehcaa.Am
open Go
set_option linter.unusedVariables false
set_option maxRecDepth 100000
def laws_FnExactFirstMismatch_ac : AC :=
 (.seq (.region 0 [⟨some 4, .mv (.c (.bool false)), none⟩])
 (.seq (.seq (.region 0 [⟨some 10, .mv (.t 1), none⟩,
  ⟨some 11, .len false (.t 10), none⟩,
  ⟨some 12, .bin .gtr (.t 11) (.c (.int .i64 1048576)), none⟩])
 (.cond (.t 12) (.seq (.region 0 [⟨some 4, .mv (.c (.bool true)), none⟩])
 .ret) .skip))
 (.seq (.region 0 [⟨some 5, .mv (.c (.int .i64 1048576)), none⟩])
 (.seq (.region 0 [⟨some 13, .mv (.t 0), none⟩,
  ⟨some 14, .mv (.t 5), none⟩,
  ⟨some 15, .call false 49 [(.t 13), (.t 14)], none⟩,
  ⟨some 5, .mv (.t 15), none⟩])
 (.seq (.seq (.region 0 [⟨some 16, .mv (.t 5), none⟩,
  ⟨some 17, .bin .lss (.t 16) (.c (.int .i64 0)), none⟩])
 (.cond (.t 17) (.seq (.region 0 [⟨some 4, .mv (.c (.bool true)), none⟩])
 .ret) .skip))
 (.seq (.region 0 [⟨some 18, .mv (.t 0), none⟩,
  ⟨some 19, .call false 45 [(.t 18)], none⟩,
  ⟨some 20, .mv (.t 1), none⟩,
  ⟨some 21, .call false 58 [(.t 20)], none⟩,
  ⟨some 22, .call false 238 [(.t 19), (.t 21)], none⟩,
  ⟨some 6, .mv (.t 22), none⟩])
 (.seq (.region 0 [⟨some 23, .mv (.t 0), none⟩,
  ⟨some 24, .call false 45 [(.t 23)], none⟩,
  ⟨some 7, .mv (.t 24), none⟩])
 (.seq (.region 0 [⟨some 25, .mv (.t 1), none⟩,
  ⟨some 26, .call false 58 [(.t 25)], none⟩,
  ⟨some 8, .mv (.t 26), none⟩])
 (.seq (.region 0 [⟨some 27, .mv (.t 7), none⟩,
  ⟨some 28, .mv (.t 8), none⟩,
  ⟨some 29, .call false 237 [(.t 27), (.t 28)], none⟩,
  ⟨some 9, .mv (.t 29), none⟩])
 (.seq (.seq (.region 0 [⟨some 30, .mv (.t 9), none⟩,
  ⟨some 31, .mv (.t 6), none⟩,
  ⟨some 32, .bin .neq (.t 30) (.t 31), none⟩])
 (.cond (.t 32) (.seq (.region 0 [⟨some 4, .mv (.c (.bool false)), none⟩])
 .ret) .skip))
 (.seq (.seq (.region 0 [⟨some 33, .mv (.t 7), none⟩,
  ⟨some 34, .mv (.t 0), none⟩,
  ⟨some 35, .call false 45 [(.t 34)], none⟩,
  ⟨some 36, .call false 46 [(.t 33), (.t 35)], none⟩,
  ⟨some 37, .un .not (.t 36), none⟩])
 (.cond (.t 37) (.seq (.region 0 [⟨some 4, .mv (.c (.bool false)), none⟩])
 .ret) .skip))
 (.seq (.seq (.region 0 [⟨some 38, .mv (.t 8), none⟩,
  ⟨some 39, .mv (.t 1), none⟩,
  ⟨some 40, .call false 58 [(.t 39)], none⟩,
  ⟨some 41, .call false 59 [(.t 38), (.t 40)], none⟩,
  ⟨some 42, .un .not (.t 41), none⟩])
 (.cond (.t 42) (.seq (.region 0 [⟨some 4, .mv (.c (.bool false)), none⟩])
 .ret) .skip))
 (.seq (.region 0 [⟨some 4, .mv (.c (.bool true)), none⟩])
 .ret)))))))))))))
structure G_laws_FnExactFirstMismatch (E : Env) : Prop where
  is : Is E 236 2 laws_FnExactFirstMismatch_ac [(4, none)]
  c_laws_szEntryS : G_laws_szEntryS E
  c_laws_toEntryS : G_laws_toEntryS E
  c_laws_eqIntS : G_laws_eqIntS E
  c_laws_eqEntryS : G_laws_eqEntryS E
  c_spec_FirstMismatch : G_spec_FirstMismatch E
  c_laws_toIntS : G_laws_toIntS E
  c_impl_FirstMismatch : G_impl_FirstMismatch E
theorem laws_FnExactFirstMismatch_E {E : Env} (h : G_laws_FnExactFirstMismatch E) (a0 a1 : U) : E 236 [a0, a1] =
 (U.lenOf false a1).bind fun n1 => (U.bin .gtr (.int .i64 (n1 : Int)) (.int .i64 1048576)).bind fun t2 => U.asBool t2
 (some (.bool true))
 ((E 49 [a0, (.int .i64 1048576)]).bind fun t3 => (U.bin .lss t3 (.int .i64 0)).bind fun t4 => U.asBool t4
 (some (.bool true))
 ((E 45 [a0]).bind fun t5 => (E 58 [a1]).bind fun t6 => (E 238 [t5, t6]).bind fun t7 => (E 45 [a0]).bind fun t8 => (E 58 [a1]).bind fun t9 => (E 237 [t8, t9]).bind fun t10 => (U.bin .neq t10 t7).bind fun t11 => U.asBool t11
 (some (.bool false))
 ((E 45 [a0]).bind fun t12 => (E 46 [t8, t12]).bind fun t13 => (U.un .not t13).bind fun t14 => U.asBool t14
 (some (.bool false))
 ((E 58 [a1]).bind fun t15 => (E 59 [t9, t15]).bind fun t16 => (U.un .not t16).bind fun t17 => U.asBool t17
 (some (.bool false))
 (some (.bool true)))))) := (h.is _ rfl).trans ((runQ_V rfl).trans (by kernel_rfl))
end Go.Proofs.Ytfdcdbkblkehcaa.Am
