import Derived.KernelRfl
import Derived.Test.YtfdcdbkblkehcaaAmW
namespace Go.Proofs.Ytfdcdbkblkehcaa.Am
open Go
set_option linter.unusedVariables false
set_option maxRecDepth 100000
def spec_NewStore_b0 : AC :=
 (.seq (.seq (.region 0 [⟨some 4, .mv (.t 2), none⟩,
  ⟨some 5, .bin .lss (.t 4) (.c (.int .i64 6)), none⟩])
 (.cond (.t 5) .skip (.exit 0)))
 (.seq (.block 1 (.region 0 [⟨some 8, .faddr 0 0 (.t 1), none⟩,
  ⟨some 9, .loadO (.sl 1) (.t 8), none⟩,
  ⟨some 10, .build [(.int .i64 0), (.int .i64 0), (.int .i64 0), (.int .i64 0), (.int .i64 0)] [(1, (.c (.int .i64 (-1)))), (4, (.c (.int .i64 1000)))], none⟩,
  ⟨some 11, .bslice 0 11 5 1 (.agg [(.int .i64 0), (.int .i64 0), (.int .i64 0), (.int .i64 0), (.int .i64 0)]) [(0, (.t 10))], none⟩,
  ⟨some 12, .bslice 0 12 1 1 (.nsl 5) [(0, (.t 11))], none⟩,
  ⟨some 13, .append false 13 1 24 (.t 9) (.t 12), none⟩,
  ⟨some 14, .faddr 0 0 (.t 1), none⟩,
  ⟨none, .storeM 3000 1 (.t 14) (.t 13), none⟩]))
 (.region 0 [⟨some 6, .mv (.t 2), none⟩,
  ⟨some 7, .bin .add (.t 6) (.c (.int .i64 1)), none⟩,
  ⟨some 2, .mv (.t 7), none⟩])))
def spec_NewStore_r0 : AC :=
 (.seq (.region 0 [⟨some 15, .loadO (.agg [(.sl 1)]) (.t 1), none⟩,
  ⟨none, .storeM 3001 1 (.t 0) (.t 15), none⟩])
 .ret)
def spec_NewStore_ac : AC :=
 (.seq (.region 0 [⟨some 0, .alloc 0 (.agg [(.nsl 1)]), none⟩])
 (.seq (.region 0 [⟨some 3, .build [(.nsl 1)] [], none⟩,
  ⟨some 1, .alloc 1 (.agg [(.nsl 1)]), none⟩,
  ⟨none, .store 1 (.t 1) (.t 3), none⟩])
 (.seq (.seq (.region 0 [⟨some 2, .mv (.c (.int .i64 0)), none⟩])
 (.block 0 (.loopU 7 spec_NewStore_b0)))
 spec_NewStore_r0)))
structure G_spec_NewStore (E : Env) : Prop where
  is : Is E 312 0 spec_NewStore_ac [(0, some (true, 1))]
theorem spec_NewStore_E {E : Env} (h : G_spec_NewStore E) : E 312 [] =
 if 1 = 1 ∧ ([(.sl 5 [(.agg [(.int .i64 0), (.int .i64 (-1)), (.int .i64 0), (.int .i64 0), (.int .i64 1000)])])] : List U).length * 24 ≤ 140737488355328 then if 1 = 1 ∧ 1 = 1 ∧ ((([(.sl 5 [(.agg [(.int .i64 0), (.int .i64 (-1)), (.int .i64 0), (.int .i64 0), (.int .i64 1000)])])] : List U)).length + ([(.sl 5 [(.agg [(.int .i64 0), (.int .i64 (-1)), (.int .i64 0), (.int .i64 0), (.int .i64 1000)])])] : List U).length) * 24 ≤ 140737488355328 then if 1 = 1 ∧ 1 = 1 ∧ (((([(.sl 5 [(.agg [(.int .i64 0), (.int .i64 (-1)), (.int .i64 0), (.int .i64 0), (.int .i64 1000)])])] : List U) ++ ([(.sl 5 [(.agg [(.int .i64 0), (.int .i64 (-1)), (.int .i64 0), (.int .i64 0), (.int .i64 1000)])])] : List U))).length + ([(.sl 5 [(.agg [(.int .i64 0), (.int .i64 (-1)), (.int .i64 0), (.int .i64 0), (.int .i64 1000)])])] : List U).length) * 24 ≤ 140737488355328 then if 1 = 1 ∧ 1 = 1 ∧ ((((([(.sl 5 [(.agg [(.int .i64 0), (.int .i64 (-1)), (.int .i64 0), (.int .i64 0), (.int .i64 1000)])])] : List U) ++ ([(.sl 5 [(.agg [(.int .i64 0), (.int .i64 (-1)), (.int .i64 0), (.int .i64 0), (.int .i64 1000)])])] : List U)) ++ ([(.sl 5 [(.agg [(.int .i64 0), (.int .i64 (-1)), (.int .i64 0), (.int .i64 0), (.int .i64 1000)])])] : List U))).length + ([(.sl 5 [(.agg [(.int .i64 0), (.int .i64 (-1)), (.int .i64 0), (.int .i64 0), (.int .i64 1000)])])] : List U).length) * 24 ≤ 140737488355328 then if 1 = 1 ∧ 1 = 1 ∧ (((((([(.sl 5 [(.agg [(.int .i64 0), (.int .i64 (-1)), (.int .i64 0), (.int .i64 0), (.int .i64 1000)])])] : List U) ++ ([(.sl 5 [(.agg [(.int .i64 0), (.int .i64 (-1)), (.int .i64 0), (.int .i64 0), (.int .i64 1000)])])] : List U)) ++ ([(.sl 5 [(.agg [(.int .i64 0), (.int .i64 (-1)), (.int .i64 0), (.int .i64 0), (.int .i64 1000)])])] : List U)) ++ ([(.sl 5 [(.agg [(.int .i64 0), (.int .i64 (-1)), (.int .i64 0), (.int .i64 0), (.int .i64 1000)])])] : List U))).length + ([(.sl 5 [(.agg [(.int .i64 0), (.int .i64 (-1)), (.int .i64 0), (.int .i64 0), (.int .i64 1000)])])] : List U).length) * 24 ≤ 140737488355328 then if 1 = 1 ∧ 1 = 1 ∧ ((((((([(.sl 5 [(.agg [(.int .i64 0), (.int .i64 (-1)), (.int .i64 0), (.int .i64 0), (.int .i64 1000)])])] : List U) ++ ([(.sl 5 [(.agg [(.int .i64 0), (.int .i64 (-1)), (.int .i64 0), (.int .i64 0), (.int .i64 1000)])])] : List U)) ++ ([(.sl 5 [(.agg [(.int .i64 0), (.int .i64 (-1)), (.int .i64 0), (.int .i64 0), (.int .i64 1000)])])] : List U)) ++ ([(.sl 5 [(.agg [(.int .i64 0), (.int .i64 (-1)), (.int .i64 0), (.int .i64 0), (.int .i64 1000)])])] : List U)) ++ ([(.sl 5 [(.agg [(.int .i64 0), (.int .i64 (-1)), (.int .i64 0), (.int .i64 0), (.int .i64 1000)])])] : List U))).length + ([(.sl 5 [(.agg [(.int .i64 0), (.int .i64 (-1)), (.int .i64 0), (.int .i64 0), (.int .i64 1000)])])] : List U).length) * 24 ≤ 140737488355328 then some (.agg [(.sl 1 (((((([(.sl 5 [(.agg [(.int .i64 0), (.int .i64 (-1)), (.int .i64 0), (.int .i64 0), (.int .i64 1000)])])] : List U) ++ ([(.sl 5 [(.agg [(.int .i64 0), (.int .i64 (-1)), (.int .i64 0), (.int .i64 0), (.int .i64 1000)])])] : List U)) ++ ([(.sl 5 [(.agg [(.int .i64 0), (.int .i64 (-1)), (.int .i64 0), (.int .i64 0), (.int .i64 1000)])])] : List U)) ++ ([(.sl 5 [(.agg [(.int .i64 0), (.int .i64 (-1)), (.int .i64 0), (.int .i64 0), (.int .i64 1000)])])] : List U)) ++ ([(.sl 5 [(.agg [(.int .i64 0), (.int .i64 (-1)), (.int .i64 0), (.int .i64 0), (.int .i64 1000)])])] : List U)) ++ ([(.sl 5 [(.agg [(.int .i64 0), (.int .i64 (-1)), (.int .i64 0), (.int .i64 0), (.int .i64 1000)])])] : List U)))]) else none else none else none else none else none else none := (h.is _ rfl).trans ((runQ_V rfl).trans (by kernel_rfl))
end Go.Proofs.Ytfdcdbkblkehcaa.Am
namespace Go.Proofs.Ytfdcdbkblkehcaa.Am
open Go
set_option linter.unusedVariables false
set_option maxRecDepth 100000
def spec_NewEngine_ac : AC :=
 (.seq (.region 0 [⟨some 2, .alloc 2 (.agg [(.bool false), (.agg [(.nsl 1)]), (.nsl 9), (.nsl 2), (.nsl 2), (.int .i64 0)]), none⟩])
 (.seq (.region 0 [⟨some 3, .mv (.t 0), none⟩,
  ⟨some 4, .call false 312 [], none⟩,
  ⟨some 5, .build [(.bool false), (.agg [(.nsl 1)]), (.nsl 9), (.nsl 2), (.nsl 2), (.int .i64 0)] [(0, (.t 3)), (1, (.t 4))], none⟩,
  ⟨none, .store 6 (.t 2) (.t 5), none⟩])
 .ret))
structure G_spec_NewEngine (E : Env) : Prop where
  is : Is E 311 1 spec_NewEngine_ac [(2, some (true, 6))]
  c_spec_NewStore : G_spec_NewStore E
theorem spec_NewEngine_E {E : Env} (h : G_spec_NewEngine E) (a0 : U) : E 311 [a0] =
 (E 312 []).bind fun t1 => if partable (.val a0) = true ∧ a0.size = 1 then if partable (.val t1) = true ∧ t1.size = 1 then if storable (.val (.agg [a0, t1, (.nsl 9), (.nsl 2), (.nsl 2), (.int .i64 0)])) = true ∧ ((.agg [a0, t1, (.nsl 9), (.nsl 2), (.nsl 2), (.int .i64 0)]) : U).size = 6 then U.asVar true 6 (.agg [a0, t1, (.nsl 9), (.nsl 2), (.nsl 2), (.int .i64 0)]) fun e2 => some e2 else none else none else none := (h.is _ rfl).trans ((runQ_V rfl).trans (by kernel_rfl))
end Go.Proofs.Ytfdcdbkblkehcaa.Am
namespace Go.Proofs.Ytfdcdbkblkehcaa.Am
open Go
set_option linter.unusedVariables false
set_option maxRecDepth 100000
def spec_NewNode_ac : AC :=
 (.seq (.region 0 [⟨some 0, .alloc 0 (.agg [(.agg [(.bool false), (.agg [(.nsl 1)]), (.nsl 9), (.nsl 2), (.nsl 2), (.int .i64 0)]), (.str ⟨#[]⟩)]), none⟩])
 (.seq (.region 0 [⟨some 1, .call false 311 [(.c (.bool true))], none⟩,
  ⟨some 2, .build [(.agg [(.bool false), (.agg [(.nsl 1)]), (.nsl 9), (.nsl 2), (.nsl 2), (.int .i64 0)]), (.str ⟨#[]⟩)] [(0, (.t 1))], none⟩,
  ⟨none, .store 7 (.t 0) (.t 2), none⟩])
 .ret))
structure G_spec_NewNode (E : Env) : Prop where
  is : Is E 310 0 spec_NewNode_ac [(0, some (true, 7))]
  c_spec_NewEngine : G_spec_NewEngine E
theorem spec_NewNode_E {E : Env} (h : G_spec_NewNode E) : E 310 [] =
 (E 311 [(.bool true)]).bind fun t1 => if partable (.val t1) = true ∧ t1.size = 6 then if storable (.val (.agg [t1, (.str ⟨#[]⟩)])) = true ∧ ((.agg [t1, (.str ⟨#[]⟩)]) : U).size = 7 then U.asVar true 7 (.agg [t1, (.str ⟨#[]⟩)]) fun e2 => some e2 else none else none := (h.is _ rfl).trans ((runQ_V rfl).trans (by kernel_rfl))
end Go.Proofs.Ytfdcdbkblkehcaa.Am
namespace Go.Proofs.Ytfdcdbkblkehcaa.Am
open Go
set_option linter.unusedVariables false
set_option maxRecDepth 100000
def impl_NewStore_b0 : AC :=
 (.seq (.region 0 [⟨some 4, .bin .lss (.t 3) (.c (.int .i64 6)), none⟩])
 (.seq (.cond (.t 4) .skip (.exit 0))
 (.seq (.block 1 (.region 0 [⟨some 5, .faddr 0 0 (.t 1), none⟩,
  ⟨some 6, .loadO (.sl 1) (.t 5), none⟩,
  ⟨some 7, .build [(.int .i64 0), (.int .i64 0), (.int .i64 0), (.int .i64 0), (.int .i64 0)] [(1, (.c (.int .i64 (-1)))), (4, (.c (.int .i64 1000)))], none⟩,
  ⟨some 8, .bslice 0 8 5 1 (.agg [(.int .i64 0), (.int .i64 0), (.int .i64 0), (.int .i64 0), (.int .i64 0)]) [(0, (.t 7))], none⟩,
  ⟨some 9, .bslice 0 9 1 1 (.nsl 5) [(0, (.t 8))], none⟩,
  ⟨some 10, .append false 10 1 24 (.t 6) (.t 9), none⟩,
  ⟨some 11, .faddr 0 0 (.t 1), none⟩,
  ⟨none, .storeM 3000 1 (.t 11) (.t 10), none⟩]))
 (.region 0 [⟨some 12, .bin .add (.t 3) (.c (.int .i64 1)), none⟩,
  ⟨some 3, .mv (.t 12), none⟩]))))
def impl_NewStore_r0 : AC :=
 (.seq (.region 0 [⟨some 13, .loadO (.agg [(.sl 1)]) (.t 1), none⟩,
  ⟨none, .storeM 3001 1 (.t 0) (.t 13), none⟩])
 .ret)
def impl_NewStore_ac : AC :=
 (.seq (.region 0 [⟨some 0, .alloc 0 (.agg [(.nsl 1)]), none⟩])
 (.seq (.region 0 [⟨some 2, .build [(.nsl 1)] [], none⟩,
  ⟨some 1, .alloc 1 (.agg [(.nsl 1)]), none⟩,
  ⟨none, .store 1 (.t 1) (.t 2), none⟩])
 (.seq (.seq (.region 0 [⟨some 3, .mv (.c (.int .i64 0)), none⟩])
 (.block 0 (.loopU 7 impl_NewStore_b0)))
 impl_NewStore_r0)))
structure G_impl_NewStore (E : Env) : Prop where
  is : Is E 314 0 impl_NewStore_ac [(0, some (true, 1))]
theorem impl_NewStore_E {E : Env} (h : G_impl_NewStore E) : E 314 [] =
 if 1 = 1 ∧ ([(.sl 5 [(.agg [(.int .i64 0), (.int .i64 (-1)), (.int .i64 0), (.int .i64 0), (.int .i64 1000)])])] : List U).length * 24 ≤ 140737488355328 then if 1 = 1 ∧ 1 = 1 ∧ ((([(.sl 5 [(.agg [(.int .i64 0), (.int .i64 (-1)), (.int .i64 0), (.int .i64 0), (.int .i64 1000)])])] : List U)).length + ([(.sl 5 [(.agg [(.int .i64 0), (.int .i64 (-1)), (.int .i64 0), (.int .i64 0), (.int .i64 1000)])])] : List U).length) * 24 ≤ 140737488355328 then if 1 = 1 ∧ 1 = 1 ∧ (((([(.sl 5 [(.agg [(.int .i64 0), (.int .i64 (-1)), (.int .i64 0), (.int .i64 0), (.int .i64 1000)])])] : List U) ++ ([(.sl 5 [(.agg [(.int .i64 0), (.int .i64 (-1)), (.int .i64 0), (.int .i64 0), (.int .i64 1000)])])] : List U))).length + ([(.sl 5 [(.agg [(.int .i64 0), (.int .i64 (-1)), (.int .i64 0), (.int .i64 0), (.int .i64 1000)])])] : List U).length) * 24 ≤ 140737488355328 then if 1 = 1 ∧ 1 = 1 ∧ ((((([(.sl 5 [(.agg [(.int .i64 0), (.int .i64 (-1)), (.int .i64 0), (.int .i64 0), (.int .i64 1000)])])] : List U) ++ ([(.sl 5 [(.agg [(.int .i64 0), (.int .i64 (-1)), (.int .i64 0), (.int .i64 0), (.int .i64 1000)])])] : List U)) ++ ([(.sl 5 [(.agg [(.int .i64 0), (.int .i64 (-1)), (.int .i64 0), (.int .i64 0), (.int .i64 1000)])])] : List U))).length + ([(.sl 5 [(.agg [(.int .i64 0), (.int .i64 (-1)), (.int .i64 0), (.int .i64 0), (.int .i64 1000)])])] : List U).length) * 24 ≤ 140737488355328 then if 1 = 1 ∧ 1 = 1 ∧ (((((([(.sl 5 [(.agg [(.int .i64 0), (.int .i64 (-1)), (.int .i64 0), (.int .i64 0), (.int .i64 1000)])])] : List U) ++ ([(.sl 5 [(.agg [(.int .i64 0), (.int .i64 (-1)), (.int .i64 0), (.int .i64 0), (.int .i64 1000)])])] : List U)) ++ ([(.sl 5 [(.agg [(.int .i64 0), (.int .i64 (-1)), (.int .i64 0), (.int .i64 0), (.int .i64 1000)])])] : List U)) ++ ([(.sl 5 [(.agg [(.int .i64 0), (.int .i64 (-1)), (.int .i64 0), (.int .i64 0), (.int .i64 1000)])])] : List U))).length + ([(.sl 5 [(.agg [(.int .i64 0), (.int .i64 (-1)), (.int .i64 0), (.int .i64 0), (.int .i64 1000)])])] : List U).length) * 24 ≤ 140737488355328 then if 1 = 1 ∧ 1 = 1 ∧ ((((((([(.sl 5 [(.agg [(.int .i64 0), (.int .i64 (-1)), (.int .i64 0), (.int .i64 0), (.int .i64 1000)])])] : List U) ++ ([(.sl 5 [(.agg [(.int .i64 0), (.int .i64 (-1)), (.int .i64 0), (.int .i64 0), (.int .i64 1000)])])] : List U)) ++ ([(.sl 5 [(.agg [(.int .i64 0), (.int .i64 (-1)), (.int .i64 0), (.int .i64 0), (.int .i64 1000)])])] : List U)) ++ ([(.sl 5 [(.agg [(.int .i64 0), (.int .i64 (-1)), (.int .i64 0), (.int .i64 0), (.int .i64 1000)])])] : List U)) ++ ([(.sl 5 [(.agg [(.int .i64 0), (.int .i64 (-1)), (.int .i64 0), (.int .i64 0), (.int .i64 1000)])])] : List U))).length + ([(.sl 5 [(.agg [(.int .i64 0), (.int .i64 (-1)), (.int .i64 0), (.int .i64 0), (.int .i64 1000)])])] : List U).length) * 24 ≤ 140737488355328 then some (.agg [(.sl 1 (((((([(.sl 5 [(.agg [(.int .i64 0), (.int .i64 (-1)), (.int .i64 0), (.int .i64 0), (.int .i64 1000)])])] : List U) ++ ([(.sl 5 [(.agg [(.int .i64 0), (.int .i64 (-1)), (.int .i64 0), (.int .i64 0), (.int .i64 1000)])])] : List U)) ++ ([(.sl 5 [(.agg [(.int .i64 0), (.int .i64 (-1)), (.int .i64 0), (.int .i64 0), (.int .i64 1000)])])] : List U)) ++ ([(.sl 5 [(.agg [(.int .i64 0), (.int .i64 (-1)), (.int .i64 0), (.int .i64 0), (.int .i64 1000)])])] : List U)) ++ ([(.sl 5 [(.agg [(.int .i64 0), (.int .i64 (-1)), (.int .i64 0), (.int .i64 0), (.int .i64 1000)])])] : List U)) ++ ([(.sl 5 [(.agg [(.int .i64 0), (.int .i64 (-1)), (.int .i64 0), (.int .i64 0), (.int .i64 1000)])])] : List U)))]) else none else none else none else none else none else none := (h.is _ rfl).trans ((runQ_V rfl).trans (by kernel_rfl))
end Go.Proofs.Ytfdcdbkblkehcaa.Am
namespace Go.Proofs.Ytfdcdbkblkehcaa.Am
open Go
set_option linter.unusedVariables false
set_option maxRecDepth 100000
def impl_NewEngine_ac : AC :=
 (.seq (.region 0 [⟨some 2, .alloc 2 (.agg [(.bool false), (.agg [(.nsl 1)]), (.nsl 9), (.nsl 2), (.nsl 2), (.int .i64 0)]), none⟩])
 (.seq (.region 0 [⟨some 3, .mv (.t 0), none⟩,
  ⟨some 4, .call false 314 [], none⟩,
  ⟨some 5, .build [(.bool false), (.agg [(.nsl 1)]), (.nsl 9), (.nsl 2), (.nsl 2), (.int .i64 0)] [(0, (.t 3)), (1, (.t 4))], none⟩,
  ⟨none, .store 6 (.t 2) (.t 5), none⟩])
 .ret))
structure G_impl_NewEngine (E : Env) : Prop where
  is : Is E 313 1 impl_NewEngine_ac [(2, some (true, 6))]
  c_impl_NewStore : G_impl_NewStore E
theorem impl_NewEngine_E {E : Env} (h : G_impl_NewEngine E) (a0 : U) : E 313 [a0] =
 (E 314 []).bind fun t1 => if partable (.val a0) = true ∧ a0.size = 1 then if partable (.val t1) = true ∧ t1.size = 1 then if storable (.val (.agg [a0, t1, (.nsl 9), (.nsl 2), (.nsl 2), (.int .i64 0)])) = true ∧ ((.agg [a0, t1, (.nsl 9), (.nsl 2), (.nsl 2), (.int .i64 0)]) : U).size = 6 then U.asVar true 6 (.agg [a0, t1, (.nsl 9), (.nsl 2), (.nsl 2), (.int .i64 0)]) fun e2 => some e2 else none else none else none := (h.is _ rfl).trans ((runQ_V rfl).trans (by kernel_rfl))
end Go.Proofs.Ytfdcdbkblkehcaa.Am
namespace Go.Proofs.Ytfdcdbkblkehcaa.Am
open Go
set_option linter.unusedVariables false
set_option maxRecDepth 100000
def impl_NewNode_ac : AC :=
 (.seq (.region 0 [⟨some 0, .alloc 0 (.agg [(.agg [(.bool false), (.agg [(.nsl 1)]), (.nsl 9), (.nsl 2), (.nsl 2), (.int .i64 0)]), (.str ⟨#[]⟩)]), none⟩])
 (.seq (.region 0 [⟨some 1, .call false 313 [(.c (.bool true))], none⟩,
  ⟨some 2, .build [(.agg [(.bool false), (.agg [(.nsl 1)]), (.nsl 9), (.nsl 2), (.nsl 2), (.int .i64 0)]), (.str ⟨#[]⟩)] [(0, (.t 1))], none⟩,
  ⟨none, .store 7 (.t 0) (.t 2), none⟩])
 .ret))
structure G_impl_NewNode (E : Env) : Prop where
  is : Is E 308 0 impl_NewNode_ac [(0, some (true, 7))]
  c_impl_NewEngine : G_impl_NewEngine E
theorem impl_NewNode_E {E : Env} (h : G_impl_NewNode E) : E 308 [] =
 (E 313 [(.bool true)]).bind fun t1 => if partable (.val t1) = true ∧ t1.size = 6 then if storable (.val (.agg [t1, (.str ⟨#[]⟩)])) = true ∧ ((.agg [t1, (.str ⟨#[]⟩)]) : U).size = 7 then U.asVar true 7 (.agg [t1, (.str ⟨#[]⟩)]) fun e2 => some e2 else none else none := (h.is _ rfl).trans ((runQ_V rfl).trans (by kernel_rfl))
end Go.Proofs.Ytfdcdbkblkehcaa.Am
namespace Go.Proofs.Ytfdcdbkblkehcaa.Am
open Go
set_option linter.unusedVariables false
set_option maxRecDepth 100000
def laws_eqVersion_ac : AC :=
 (.seq (.region 0 [⟨some 2, .box false 2 (.t 0), none⟩,
  ⟨some 3, .box false 3 (.t 1), none⟩,
  ⟨some 4, .mv (.c (.bool false)), none⟩])
 (.seq (.seq (.region 0 [⟨some 5, .faddr 0 0 (.t 2), none⟩,
  ⟨some 6, .load false 1 (.t 5), none⟩,
  ⟨some 7, .faddr 0 0 (.t 3), none⟩,
  ⟨some 8, .load false 1 (.t 7), none⟩,
  ⟨some 9, .bin .neq (.t 6) (.t 8), none⟩])
 (.cond (.t 9) (.seq (.region 0 [⟨some 4, .mv (.c (.bool false)), none⟩])
 .ret) .skip))
 (.seq (.seq (.region 0 [⟨some 10, .faddr 1 1 (.t 2), none⟩,
  ⟨some 11, .load false 1 (.t 10), none⟩,
  ⟨some 12, .faddr 1 1 (.t 3), none⟩,
  ⟨some 13, .load false 1 (.t 12), none⟩,
  ⟨some 14, .bin .neq (.t 11) (.t 13), none⟩])
 (.cond (.t 14) (.seq (.region 0 [⟨some 4, .mv (.c (.bool false)), none⟩])
 .ret) .skip))
 (.seq (.seq (.region 0 [⟨some 15, .faddr 2 2 (.t 2), none⟩,
  ⟨some 16, .load false 1 (.t 15), none⟩,
  ⟨some 17, .faddr 2 2 (.t 3), none⟩,
  ⟨some 18, .load false 1 (.t 17), none⟩,
  ⟨some 19, .bin .neq (.t 16) (.t 18), none⟩])
 (.cond (.t 19) (.seq (.region 0 [⟨some 4, .mv (.c (.bool false)), none⟩])
 .ret) .skip))
 (.seq (.seq (.region 0 [⟨some 20, .faddr 3 3 (.t 2), none⟩,
  ⟨some 21, .load false 1 (.t 20), none⟩,
  ⟨some 22, .faddr 3 3 (.t 3), none⟩,
  ⟨some 23, .load false 1 (.t 22), none⟩,
  ⟨some 24, .bin .neq (.t 21) (.t 23), none⟩])
 (.cond (.t 24) (.seq (.region 0 [⟨some 4, .mv (.c (.bool false)), none⟩])
 .ret) .skip))
 (.seq (.seq (.region 0 [⟨some 25, .faddr 4 4 (.t 2), none⟩,
  ⟨some 26, .load false 1 (.t 25), none⟩,
  ⟨some 27, .faddr 4 4 (.t 3), none⟩,
  ⟨some 28, .load false 1 (.t 27), none⟩,
  ⟨some 29, .bin .neq (.t 26) (.t 28), none⟩])
 (.cond (.t 29) (.seq (.region 0 [⟨some 4, .mv (.c (.bool false)), none⟩])
 .ret) .skip))
 (.seq (.region 0 [⟨some 4, .mv (.c (.bool true)), none⟩])
 .ret)))))))
structure G_laws_eqVersion (E : Env) : Prop where
  is : Is E 120 2 laws_eqVersion_ac [(4, none)]
theorem laws_eqVersion_E {E : Env} (h : G_laws_eqVersion E) (a0 a1 : U) : E 120 [a0, a1] =
 U.noTup a0 fun x1 => U.noTup a1 fun x2 => U.asAgg x1 fun us3 => if 0 = sizes (us3.take 0) then (us3[0]?).bind fun e4 => U.asVar false 1 e4 fun e5 => U.asAgg x2 fun us6 => if 0 = sizes (us6.take 0) then (us6[0]?).bind fun e7 => U.asVar false 1 e7 fun e8 => (U.bin .neq e5 e8).bind fun t9 => U.asBool t9
 (some (.bool false))
 (U.asAgg x1 fun us10 => if 1 = sizes (us10.take 1) then (us10[1]?).bind fun e11 => U.asVar false 1 e11 fun e12 => U.asAgg x2 fun us13 => if 1 = sizes (us13.take 1) then (us13[1]?).bind fun e14 => U.asVar false 1 e14 fun e15 => (U.bin .neq e12 e15).bind fun t16 => U.asBool t16
 (some (.bool false))
 (U.asAgg x1 fun us17 => if 2 = sizes (us17.take 2) then (us17[2]?).bind fun e18 => U.asVar false 1 e18 fun e19 => U.asAgg x2 fun us20 => if 2 = sizes (us20.take 2) then (us20[2]?).bind fun e21 => U.asVar false 1 e21 fun e22 => (U.bin .neq e19 e22).bind fun t23 => U.asBool t23
 (some (.bool false))
 (U.asAgg x1 fun us24 => if 3 = sizes (us24.take 3) then (us24[3]?).bind fun e25 => U.asVar false 1 e25 fun e26 => U.asAgg x2 fun us27 => if 3 = sizes (us27.take 3) then (us27[3]?).bind fun e28 => U.asVar false 1 e28 fun e29 => (U.bin .neq e26 e29).bind fun t30 => U.asBool t30
 (some (.bool false))
 (U.asAgg x1 fun us31 => if 4 = sizes (us31.take 4) then (us31[4]?).bind fun e32 => U.asVar false 1 e32 fun e33 => U.asAgg x2 fun us34 => if 4 = sizes (us34.take 4) then (us34[4]?).bind fun e35 => U.asVar false 1 e35 fun e36 => (U.bin .neq e33 e36).bind fun t37 => U.asBool t37
 (some (.bool false))
 (some (.bool true)) else none else none) else none else none) else none else none) else none else none) else none else none := (h.is _ rfl).trans ((runQ_V rfl).trans (by kernel_rfl))
end Go.Proofs.Ytfdcdbkblkehcaa.Am
namespace Go.Proofs.Ytfdcdbkblkehcaa.Am
open Go
set_option linter.unusedVariables false
set_option maxRecDepth 100000
def laws_eqVersionS_b0 : AC :=
 (.seq (.seq (.region 0 [⟨some 11, .mv (.t 5), none⟩,
  ⟨some 12, .mv (.t 0), none⟩,
  ⟨some 13, .len false (.t 12), none⟩,
  ⟨some 14, .bin .lss (.t 11) (.t 13), none⟩])
 (.cond (.t 14) .skip (.exit 0)))
 (.seq (.block 1 (.seq (.region 10 [⟨some 17, .mv (.t 0), none⟩,
  ⟨some 18, .mv (.t 5), none⟩,
  ⟨some 19, .iaddr 5 (.t 17) (.t 18), none⟩,
  ⟨some 20, .load true 5 (.t 19), none⟩,
  ⟨some 21, .mv (.t 1), none⟩,
  ⟨some 22, .mv (.t 5), none⟩,
  ⟨some 23, .iaddr 5 (.t 21) (.t 22), none⟩,
  ⟨some 24, .load true 5 (.t 23), none⟩,
  ⟨some 25, .call false 120 [(.t 20), (.t 24)], none⟩,
  ⟨some 26, .un .not (.t 25), none⟩])
 (.cond (.t 26) (.seq (.region 0 [⟨some 4, .mv (.c (.bool false)), none⟩])
 .ret) .skip)))
 (.region 0 [⟨some 15, .mv (.t 5), none⟩,
  ⟨some 16, .bin .add (.t 15) (.c (.int .i64 1)), none⟩,
  ⟨some 5, .mv (.t 16), none⟩])))
def laws_eqVersionS_r0 : AC :=
 (.seq (.region 0 [⟨some 4, .mv (.c (.bool true)), none⟩])
 .ret)
def laws_eqVersionS_ac : AC :=
 (.seq (.region 0 [⟨some 4, .mv (.c (.bool false)), none⟩])
 (.seq (.seq (.region 0 [⟨some 6, .mv (.t 0), none⟩,
  ⟨some 7, .len false (.t 6), none⟩,
  ⟨some 8, .mv (.t 1), none⟩,
  ⟨some 9, .len false (.t 8), none⟩,
  ⟨some 10, .bin .neq (.t 7) (.t 9), none⟩])
 (.cond (.t 10) (.seq (.region 0 [⟨some 4, .mv (.c (.bool false)), none⟩])
 .ret) .skip))
 (.seq (.seq (.region 0 [⟨some 5, .mv (.c (.int .i64 0)), none⟩])
 (.block 0 (.loop ⟨[0, 1, 5], [], []⟩ laws_eqVersionS_b0)))
 laws_eqVersionS_r0)))
noncomputable def laws_eqVersionS_l0 (E : Env) (x0 : U) (x1 : U) (x5 : U) : Option U := loopK (roundOf E ⟨[0, 1, 5], [], []⟩ laws_eqVersionS_b0 (blockK 0 (seqK (fun s => exec E laws_eqVersionS_r0 s (finish [(4, none)])) (finish [(4, none)])))) ([.val x0, .val x1, .val x5], [])
theorem laws_eqVersionS_l0_eq (E : Env) (x0 : U) (x1 : U) (x5 : U) : laws_eqVersionS_l0 E x0 x1 x5 =
 (U.lenOf false x0).bind fun n4 => (U.bin .lss x5 (.int .i64 (n4 : Int))).bind fun t5 => U.asBool t5
 (U.asInt x5 fun n6 => U.elemAt 5 x0 n6 fun e7 => U.asVar true 5 e7 fun e8 => U.asInt x5 fun n9 => U.elemAt 5 x1 n9 fun e10 => U.asVar true 5 e10 fun e11 => (E 120 [e8, e11]).bind fun t12 => (U.un .not t12).bind fun t13 => U.asBool t13
 (some (.bool false))
 ((U.bin .add x5 (.int .i64 1)).bind fun t14 => laws_eqVersionS_l0 E x0 x1 t14))
 (some (.bool true)) :=
 (loop_eq E _ _ _ _).trans (by kernel_rfl)
structure G_laws_eqVersionS (E : Env) : Prop where
  is : Is E 119 2 laws_eqVersionS_ac [(4, none)]
  c_laws_eqVersion : G_laws_eqVersion E
theorem laws_eqVersionS_E {E : Env} (h : G_laws_eqVersionS E) (a0 a1 : U) : E 119 [a0, a1] =
 (U.lenOf false a0).bind fun n1 => (U.lenOf false a1).bind fun n2 => (U.bin .neq (.int .i64 (n1 : Int)) (.int .i64 (n2 : Int))).bind fun t3 => U.asBool t3
 (some (.bool false))
 (laws_eqVersionS_l0 E a0 a1 (.int .i64 0)) := (h.is _ rfl).trans ((runQ_V rfl).trans (by kernel_rfl))
end Go.Proofs.Ytfdcdbkblkehcaa.Am
namespace Go.Proofs.Ytfdcdbkblkehcaa.Am
open Go
set_option linter.unusedVariables false
set_option maxRecDepth 100000
def laws_eqVersionSS_b0 : AC :=
 (.seq (.seq (.region 0 [⟨some 11, .mv (.t 5), none⟩,
  ⟨some 12, .mv (.t 0), none⟩,
  ⟨some 13, .len false (.t 12), none⟩,
  ⟨some 14, .bin .lss (.t 11) (.t 13), none⟩])
 (.cond (.t 14) .skip (.exit 0)))
 (.seq (.block 1 (.seq (.region 10 [⟨some 17, .mv (.t 0), none⟩,
  ⟨some 18, .mv (.t 5), none⟩,
  ⟨some 19, .iaddr 1 (.t 17) (.t 18), none⟩,
  ⟨some 20, .load false 1 (.t 19), none⟩,
  ⟨some 21, .mv (.t 1), none⟩,
  ⟨some 22, .mv (.t 5), none⟩,
  ⟨some 23, .iaddr 1 (.t 21) (.t 22), none⟩,
  ⟨some 24, .load false 1 (.t 23), none⟩,
  ⟨some 25, .call false 119 [(.t 20), (.t 24)], none⟩,
  ⟨some 26, .un .not (.t 25), none⟩])
 (.cond (.t 26) (.seq (.region 0 [⟨some 4, .mv (.c (.bool false)), none⟩])
 .ret) .skip)))
 (.region 0 [⟨some 15, .mv (.t 5), none⟩,
  ⟨some 16, .bin .add (.t 15) (.c (.int .i64 1)), none⟩,
  ⟨some 5, .mv (.t 16), none⟩])))
def laws_eqVersionSS_r0 : AC :=
 (.seq (.region 0 [⟨some 4, .mv (.c (.bool true)), none⟩])
 .ret)
def laws_eqVersionSS_ac : AC :=
 (.seq (.region 0 [⟨some 4, .mv (.c (.bool false)), none⟩])
 (.seq (.seq (.region 0 [⟨some 6, .mv (.t 0), none⟩,
  ⟨some 7, .len false (.t 6), none⟩,
  ⟨some 8, .mv (.t 1), none⟩,
  ⟨some 9, .len false (.t 8), none⟩,
  ⟨some 10, .bin .neq (.t 7) (.t 9), none⟩])
 (.cond (.t 10) (.seq (.region 0 [⟨some 4, .mv (.c (.bool false)), none⟩])
 .ret) .skip))
 (.seq (.seq (.region 0 [⟨some 5, .mv (.c (.int .i64 0)), none⟩])
 (.block 0 (.loop ⟨[0, 1, 5], [], []⟩ laws_eqVersionSS_b0)))
 laws_eqVersionSS_r0)))
noncomputable def laws_eqVersionSS_l0 (E : Env) (x0 : U) (x1 : U) (x5 : U) : Option U := loopK (roundOf E ⟨[0, 1, 5], [], []⟩ laws_eqVersionSS_b0 (blockK 0 (seqK (fun s => exec E laws_eqVersionSS_r0 s (finish [(4, none)])) (finish [(4, none)])))) ([.val x0, .val x1, .val x5], [])
theorem laws_eqVersionSS_l0_eq (E : Env) (x0 : U) (x1 : U) (x5 : U) : laws_eqVersionSS_l0 E x0 x1 x5 =
 (U.lenOf false x0).bind fun n4 => (U.bin .lss x5 (.int .i64 (n4 : Int))).bind fun t5 => U.asBool t5
 (U.asInt x5 fun n6 => U.elemAt 1 x0 n6 fun e7 => U.asVar false 1 e7 fun e8 => U.asInt x5 fun n9 => U.elemAt 1 x1 n9 fun e10 => U.asVar false 1 e10 fun e11 => (E 119 [e8, e11]).bind fun t12 => (U.un .not t12).bind fun t13 => U.asBool t13
 (some (.bool false))
 ((U.bin .add x5 (.int .i64 1)).bind fun t14 => laws_eqVersionSS_l0 E x0 x1 t14))
 (some (.bool true)) :=
 (loop_eq E _ _ _ _).trans (by kernel_rfl)
structure G_laws_eqVersionSS (E : Env) : Prop where
  is : Is E 118 2 laws_eqVersionSS_ac [(4, none)]
  c_laws_eqVersionS : G_laws_eqVersionS E
theorem laws_eqVersionSS_E {E : Env} (h : G_laws_eqVersionSS E) (a0 a1 : U) : E 118 [a0, a1] =
 (U.lenOf false a0).bind fun n1 => (U.lenOf false a1).bind fun n2 => (U.bin .neq (.int .i64 (n1 : Int)) (.int .i64 (n2 : Int))).bind fun t3 => U.asBool t3
 (some (.bool false))
 (laws_eqVersionSS_l0 E a0 a1 (.int .i64 0)) := (h.is _ rfl).trans ((runQ_V rfl).trans (by kernel_rfl))
end Go.Proofs.Ytfdcdbkblkehcaa.Am
namespace Go.Proofs.Ytfdcdbkblkehcaa.Am
open Go
set_option linter.unusedVariables false
set_option maxRecDepth 100000
def laws_eqStore_ac : AC :=
 (.seq (.region 0 [⟨some 2, .box false 2 (.t 0), none⟩,
  ⟨some 3, .box false 3 (.t 1), none⟩,
  ⟨some 4, .mv (.c (.bool false)), none⟩])
 (.seq (.seq (.region 0 [⟨some 5, .faddr 0 0 (.t 2), none⟩,
  ⟨some 6, .load false 1 (.t 5), none⟩,
  ⟨some 7, .faddr 0 0 (.t 3), none⟩,
  ⟨some 8, .load false 1 (.t 7), none⟩,
  ⟨some 9, .call false 118 [(.t 6), (.t 8)], none⟩,
  ⟨some 10, .un .not (.t 9), none⟩])
 (.cond (.t 10) (.seq (.region 0 [⟨some 4, .mv (.c (.bool false)), none⟩])
 .ret) .skip))
 (.seq (.region 0 [⟨some 4, .mv (.c (.bool true)), none⟩])
 .ret)))
structure G_laws_eqStore (E : Env) : Prop where
  is : Is E 97 2 laws_eqStore_ac [(4, none)]
  c_laws_eqVersionSS : G_laws_eqVersionSS E
theorem laws_eqStore_E {E : Env} (h : G_laws_eqStore E) (a0 a1 : U) : E 97 [a0, a1] =
 U.noTup a0 fun x1 => U.noTup a1 fun x2 => U.asAgg x1 fun us3 => if 0 = sizes (us3.take 0) then (us3[0]?).bind fun e4 => U.asVar false 1 e4 fun e5 => U.asAgg x2 fun us6 => if 0 = sizes (us6.take 0) then (us6[0]?).bind fun e7 => U.asVar false 1 e7 fun e8 => (E 118 [e5, e8]).bind fun t9 => (U.un .not t9).bind fun t10 => U.asBool t10
 (some (.bool false))
 (some (.bool true)) else none else none := (h.is _ rfl).trans ((runQ_V rfl).trans (by kernel_rfl))
end Go.Proofs.Ytfdcdbkblkehcaa.Am
namespace Go.Proofs.Ytfdcdbkblkehcaa.Am
open Go
set_option linter.unusedVariables false
set_option maxRecDepth 100000
def laws_eqReadMark_ac : AC :=
 (.seq (.region 0 [⟨some 2, .box false 2 (.t 0), none⟩,
  ⟨some 3, .box false 3 (.t 1), none⟩,
  ⟨some 4, .mv (.c (.bool false)), none⟩])
 (.seq (.seq (.region 0 [⟨some 5, .faddr 0 0 (.t 2), none⟩,
  ⟨some 6, .load false 1 (.t 5), none⟩,
  ⟨some 7, .faddr 0 0 (.t 3), none⟩,
  ⟨some 8, .load false 1 (.t 7), none⟩,
  ⟨some 9, .bin .neq (.t 6) (.t 8), none⟩])
 (.cond (.t 9) (.seq (.region 0 [⟨some 4, .mv (.c (.bool false)), none⟩])
 .ret) .skip))
 (.seq (.seq (.region 0 [⟨some 10, .faddr 1 1 (.t 2), none⟩,
  ⟨some 11, .load false 1 (.t 10), none⟩,
  ⟨some 12, .faddr 1 1 (.t 3), none⟩,
  ⟨some 13, .load false 1 (.t 12), none⟩,
  ⟨some 14, .bin .neq (.t 11) (.t 13), none⟩])
 (.cond (.t 14) (.seq (.region 0 [⟨some 4, .mv (.c (.bool false)), none⟩])
 .ret) .skip))
 (.seq (.region 0 [⟨some 4, .mv (.c (.bool true)), none⟩])
 .ret))))
structure G_laws_eqReadMark (E : Env) : Prop where
  is : Is E 35 2 laws_eqReadMark_ac [(4, none)]
end Go.Proofs.Ytfdcdbkblkehcaa.Am
namespace Go.Proofs.Ytfdcdbkblkehcaa.Am
open Go
set_option linter.unusedVariables false
set_option maxRecDepth 100000
def laws_eqReadMarkS_b0 : AC :=
 (.seq (.seq (.region 0 [⟨some 11, .mv (.t 5), none⟩,
  ⟨some 12, .mv (.t 0), none⟩,
  ⟨some 13, .len false (.t 12), none⟩,
  ⟨some 14, .bin .lss (.t 11) (.t 13), none⟩])
 (.cond (.t 14) .skip (.exit 0)))
 (.seq (.block 1 (.seq (.region 10 [⟨some 17, .mv (.t 0), none⟩,
  ⟨some 18, .mv (.t 5), none⟩,
  ⟨some 19, .iaddr 2 (.t 17) (.t 18), none⟩,
  ⟨some 20, .load true 2 (.t 19), none⟩,
  ⟨some 21, .mv (.t 1), none⟩,
  ⟨some 22, .mv (.t 5), none⟩,
  ⟨some 23, .iaddr 2 (.t 21) (.t 22), none⟩,
  ⟨some 24, .load true 2 (.t 23), none⟩,
  ⟨some 25, .call false 35 [(.t 20), (.t 24)], none⟩,
  ⟨some 26, .un .not (.t 25), none⟩])
 (.cond (.t 26) (.seq (.region 0 [⟨some 4, .mv (.c (.bool false)), none⟩])
 .ret) .skip)))
 (.region 0 [⟨some 15, .mv (.t 5), none⟩,
  ⟨some 16, .bin .add (.t 15) (.c (.int .i64 1)), none⟩,
  ⟨some 5, .mv (.t 16), none⟩])))
def laws_eqReadMarkS_r0 : AC :=
 (.seq (.region 0 [⟨some 4, .mv (.c (.bool true)), none⟩])
 .ret)
def laws_eqReadMarkS_ac : AC :=
 (.seq (.region 0 [⟨some 4, .mv (.c (.bool false)), none⟩])
 (.seq (.seq (.region 0 [⟨some 6, .mv (.t 0), none⟩,
  ⟨some 7, .len false (.t 6), none⟩,
  ⟨some 8, .mv (.t 1), none⟩,
  ⟨some 9, .len false (.t 8), none⟩,
  ⟨some 10, .bin .neq (.t 7) (.t 9), none⟩])
 (.cond (.t 10) (.seq (.region 0 [⟨some 4, .mv (.c (.bool false)), none⟩])
 .ret) .skip))
 (.seq (.seq (.region 0 [⟨some 5, .mv (.c (.int .i64 0)), none⟩])
 (.block 0 (.loop ⟨[0, 1, 5], [], []⟩ laws_eqReadMarkS_b0)))
 laws_eqReadMarkS_r0)))
structure G_laws_eqReadMarkS (E : Env) : Prop where
  is : Is E 34 2 laws_eqReadMarkS_ac [(4, none)]
  c_laws_eqReadMark : G_laws_eqReadMark E
end Go.Proofs.Ytfdcdbkblkehcaa.Am
namespace Go.Proofs.Ytfdcdbkblkehcaa.Am
open Go
set_option linter.unusedVariables false
set_option maxRecDepth 100000
def laws_eqWrite_ac : AC :=
 (.seq (.region 0 [⟨some 2, .box false 2 (.t 0), none⟩,
  ⟨some 3, .box false 3 (.t 1), none⟩,
  ⟨some 4, .mv (.c (.bool false)), none⟩])
 (.seq (.seq (.region 0 [⟨some 5, .faddr 0 0 (.t 2), none⟩,
  ⟨some 6, .load false 1 (.t 5), none⟩,
  ⟨some 7, .faddr 0 0 (.t 3), none⟩,
  ⟨some 8, .load false 1 (.t 7), none⟩,
  ⟨some 9, .bin .neq (.t 6) (.t 8), none⟩])
 (.cond (.t 9) (.seq (.region 0 [⟨some 4, .mv (.c (.bool false)), none⟩])
 .ret) .skip))
 (.seq (.seq (.region 0 [⟨some 10, .faddr 1 1 (.t 2), none⟩,
  ⟨some 11, .load false 1 (.t 10), none⟩,
  ⟨some 12, .faddr 1 1 (.t 3), none⟩,
  ⟨some 13, .load false 1 (.t 12), none⟩,
  ⟨some 14, .bin .neq (.t 11) (.t 13), none⟩])
 (.cond (.t 14) (.seq (.region 0 [⟨some 4, .mv (.c (.bool false)), none⟩])
 .ret) .skip))
 (.seq (.region 0 [⟨some 4, .mv (.c (.bool true)), none⟩])
 .ret))))
structure G_laws_eqWrite (E : Env) : Prop where
  is : Is E 36 2 laws_eqWrite_ac [(4, none)]
end Go.Proofs.Ytfdcdbkblkehcaa.Am
namespace Go.Proofs.Ytfdcdbkblkehcaa.Am
open Go
set_option linter.unusedVariables false
set_option maxRecDepth 100000
def laws_eqWriteS_b0 : AC :=
 (.seq (.seq (.region 0 [⟨some 11, .mv (.t 5), none⟩,
  ⟨some 12, .mv (.t 0), none⟩,
  ⟨some 13, .len false (.t 12), none⟩,
  ⟨some 14, .bin .lss (.t 11) (.t 13), none⟩])
 (.cond (.t 14) .skip (.exit 0)))
 (.seq (.block 1 (.seq (.region 10 [⟨some 17, .mv (.t 0), none⟩,
  ⟨some 18, .mv (.t 5), none⟩,
  ⟨some 19, .iaddr 2 (.t 17) (.t 18), none⟩,
  ⟨some 20, .load true 2 (.t 19), none⟩,
  ⟨some 21, .mv (.t 1), none⟩,
  ⟨some 22, .mv (.t 5), none⟩,
  ⟨some 23, .iaddr 2 (.t 21) (.t 22), none⟩,
  ⟨some 24, .load true 2 (.t 23), none⟩,
  ⟨some 25, .call false 36 [(.t 20), (.t 24)], none⟩,
  ⟨some 26, .un .not (.t 25), none⟩])
 (.cond (.t 26) (.seq (.region 0 [⟨some 4, .mv (.c (.bool false)), none⟩])
 .ret) .skip)))
 (.region 0 [⟨some 15, .mv (.t 5), none⟩,
  ⟨some 16, .bin .add (.t 15) (.c (.int .i64 1)), none⟩,
  ⟨some 5, .mv (.t 16), none⟩])))
def laws_eqWriteS_r0 : AC :=
 (.seq (.region 0 [⟨some 4, .mv (.c (.bool true)), none⟩])
 .ret)
def laws_eqWriteS_ac : AC :=
 (.seq (.region 0 [⟨some 4, .mv (.c (.bool false)), none⟩])
 (.seq (.seq (.region 0 [⟨some 6, .mv (.t 0), none⟩,
  ⟨some 7, .len false (.t 6), none⟩,
  ⟨some 8, .mv (.t 1), none⟩,
  ⟨some 9, .len false (.t 8), none⟩,
  ⟨some 10, .bin .neq (.t 7) (.t 9), none⟩])
 (.cond (.t 10) (.seq (.region 0 [⟨some 4, .mv (.c (.bool false)), none⟩])
 .ret) .skip))
 (.seq (.seq (.region 0 [⟨some 5, .mv (.c (.int .i64 0)), none⟩])
 (.block 0 (.loop ⟨[0, 1, 5], [], []⟩ laws_eqWriteS_b0)))
 laws_eqWriteS_r0)))
structure G_laws_eqWriteS (E : Env) : Prop where
  is : Is E 33 2 laws_eqWriteS_ac [(4, none)]
  c_laws_eqWrite : G_laws_eqWrite E
end Go.Proofs.Ytfdcdbkblkehcaa.Am
namespace Go.Proofs.Ytfdcdbkblkehcaa.Am
open Go
set_option linter.unusedVariables false
set_option maxRecDepth 100000
def laws_eqTransaction_ac : AC :=
 (.seq (.region 0 [⟨some 2, .box false 2 (.t 0), none⟩,
  ⟨some 3, .box false 3 (.t 1), none⟩,
  ⟨some 4, .mv (.c (.bool false)), none⟩])
 (.seq (.seq (.region 0 [⟨some 5, .faddr 0 0 (.t 2), none⟩,
  ⟨some 6, .load false 1 (.t 5), none⟩,
  ⟨some 7, .faddr 0 0 (.t 3), none⟩,
  ⟨some 8, .load false 1 (.t 7), none⟩,
  ⟨some 9, .bin .neq (.t 6) (.t 8), none⟩])
 (.cond (.t 9) (.seq (.region 0 [⟨some 4, .mv (.c (.bool false)), none⟩])
 .ret) .skip))
 (.seq (.seq (.region 0 [⟨some 10, .faddr 1 1 (.t 2), none⟩,
  ⟨some 11, .load false 1 (.t 10), none⟩,
  ⟨some 12, .faddr 1 1 (.t 3), none⟩,
  ⟨some 13, .load false 1 (.t 12), none⟩,
  ⟨some 14, .bin .neq (.t 11) (.t 13), none⟩])
 (.cond (.t 14) (.seq (.region 0 [⟨some 4, .mv (.c (.bool false)), none⟩])
 .ret) .skip))
 (.seq (.seq (.region 0 [⟨some 15, .faddr 2 2 (.t 2), none⟩,
  ⟨some 16, .load false 1 (.t 15), none⟩,
  ⟨some 17, .faddr 2 2 (.t 3), none⟩,
  ⟨some 18, .load false 1 (.t 17), none⟩,
  ⟨some 19, .bin .neq (.t 16) (.t 18), none⟩])
 (.cond (.t 19) (.seq (.region 0 [⟨some 4, .mv (.c (.bool false)), none⟩])
 .ret) .skip))
 (.seq (.seq (.region 0 [⟨some 20, .faddr 3 3 (.t 2), none⟩,
  ⟨some 21, .load false 1 (.t 20), none⟩,
  ⟨some 22, .faddr 3 3 (.t 3), none⟩,
  ⟨some 23, .load false 1 (.t 22), none⟩,
  ⟨some 24, .bin .neq (.t 21) (.t 23), none⟩])
 (.cond (.t 24) (.seq (.region 0 [⟨some 4, .mv (.c (.bool false)), none⟩])
 .ret) .skip))
 (.seq (.seq (.region 0 [⟨some 25, .faddr 4 4 (.t 2), none⟩,
  ⟨some 26, .load false 1 (.t 25), none⟩,
  ⟨some 27, .faddr 4 4 (.t 3), none⟩,
  ⟨some 28, .load false 1 (.t 27), none⟩,
  ⟨some 29, .bin .neq (.t 26) (.t 28), none⟩])
 (.cond (.t 29) (.seq (.region 0 [⟨some 4, .mv (.c (.bool false)), none⟩])
 .ret) .skip))
 (.seq (.seq (.region 0 [⟨some 30, .faddr 5 5 (.t 2), none⟩,
  ⟨some 31, .load false 1 (.t 30), none⟩,
  ⟨some 32, .faddr 5 5 (.t 3), none⟩,
  ⟨some 33, .load false 1 (.t 32), none⟩,
  ⟨some 34, .bin .neq (.t 31) (.t 33), none⟩])
 (.cond (.t 34) (.seq (.region 0 [⟨some 4, .mv (.c (.bool false)), none⟩])
 .ret) .skip))
 (.seq (.seq (.region 0 [⟨some 35, .faddr 6 6 (.t 2), none⟩,
  ⟨some 36, .load false 1 (.t 35), none⟩,
  ⟨some 37, .faddr 6 6 (.t 3), none⟩,
  ⟨some 38, .load false 1 (.t 37), none⟩,
  ⟨some 39, .bin .neq (.t 36) (.t 38), none⟩])
 (.cond (.t 39) (.seq (.region 0 [⟨some 4, .mv (.c (.bool false)), none⟩])
 .ret) .skip))
 (.seq (.seq (.region 0 [⟨some 40, .faddr 7 7 (.t 2), none⟩,
  ⟨some 41, .load false 1 (.t 40), none⟩,
  ⟨some 42, .faddr 7 7 (.t 3), none⟩,
  ⟨some 43, .load false 1 (.t 42), none⟩,
  ⟨some 44, .call false 34 [(.t 41), (.t 43)], none⟩,
  ⟨some 45, .un .not (.t 44), none⟩])
 (.cond (.t 45) (.seq (.region 0 [⟨some 4, .mv (.c (.bool false)), none⟩])
 .ret) .skip))
 (.seq (.seq (.region 0 [⟨some 46, .faddr 8 8 (.t 2), none⟩,
  ⟨some 47, .load false 1 (.t 46), none⟩,
  ⟨some 48, .faddr 8 8 (.t 3), none⟩,
  ⟨some 49, .load false 1 (.t 48), none⟩,
  ⟨some 50, .call false 33 [(.t 47), (.t 49)], none⟩,
  ⟨some 51, .un .not (.t 50), none⟩])
 (.cond (.t 51) (.seq (.region 0 [⟨some 4, .mv (.c (.bool false)), none⟩])
 .ret) .skip))
 (.seq (.region 0 [⟨some 4, .mv (.c (.bool true)), none⟩])
 .ret)))))))))))
structure G_laws_eqTransaction (E : Env) : Prop where
  is : Is E 177 2 laws_eqTransaction_ac [(4, none)]
  c_laws_eqReadMarkS : G_laws_eqReadMarkS E
  c_laws_eqWriteS : G_laws_eqWriteS E
end Go.Proofs.Ytfdcdbkblkehcaa.Am
namespace Go.Proofs.Ytfdcdbkblkehcaa.Am
open Go
set_option linter.unusedVariables false
set_option maxRecDepth 100000
def laws_eqTransactionS_b0 : AC :=
 (.seq (.seq (.region 0 [⟨some 11, .mv (.t 5), none⟩,
  ⟨some 12, .mv (.t 0), none⟩,
  ⟨some 13, .len false (.t 12), none⟩,
  ⟨some 14, .bin .lss (.t 11) (.t 13), none⟩])
 (.cond (.t 14) .skip (.exit 0)))
 (.seq (.block 1 (.seq (.region 10 [⟨some 17, .mv (.t 0), none⟩,
  ⟨some 18, .mv (.t 5), none⟩,
  ⟨some 19, .iaddr 9 (.t 17) (.t 18), none⟩,
  ⟨some 20, .load true 9 (.t 19), none⟩,
  ⟨some 21, .mv (.t 1), none⟩,
  ⟨some 22, .mv (.t 5), none⟩,
  ⟨some 23, .iaddr 9 (.t 21) (.t 22), none⟩,
  ⟨some 24, .load true 9 (.t 23), none⟩,
  ⟨some 25, .call false 177 [(.t 20), (.t 24)], none⟩,
  ⟨some 26, .un .not (.t 25), none⟩])
 (.cond (.t 26) (.seq (.region 0 [⟨some 4, .mv (.c (.bool false)), none⟩])
 .ret) .skip)))
 (.region 0 [⟨some 15, .mv (.t 5), none⟩,
  ⟨some 16, .bin .add (.t 15) (.c (.int .i64 1)), none⟩,
  ⟨some 5, .mv (.t 16), none⟩])))
def laws_eqTransactionS_r0 : AC :=
 (.seq (.region 0 [⟨some 4, .mv (.c (.bool true)), none⟩])
 .ret)
def laws_eqTransactionS_ac : AC :=
 (.seq (.region 0 [⟨some 4, .mv (.c (.bool false)), none⟩])
 (.seq (.seq (.region 0 [⟨some 6, .mv (.t 0), none⟩,
  ⟨some 7, .len false (.t 6), none⟩,
  ⟨some 8, .mv (.t 1), none⟩,
  ⟨some 9, .len false (.t 8), none⟩,
  ⟨some 10, .bin .neq (.t 7) (.t 9), none⟩])
 (.cond (.t 10) (.seq (.region 0 [⟨some 4, .mv (.c (.bool false)), none⟩])
 .ret) .skip))
 (.seq (.seq (.region 0 [⟨some 5, .mv (.c (.int .i64 0)), none⟩])
 (.block 0 (.loop ⟨[0, 1, 5], [], []⟩ laws_eqTransactionS_b0)))
 laws_eqTransactionS_r0)))
noncomputable def laws_eqTransactionS_l0 (E : Env) (x0 : U) (x1 : U) (x5 : U) : Option U := loopK (roundOf E ⟨[0, 1, 5], [], []⟩ laws_eqTransactionS_b0 (blockK 0 (seqK (fun s => exec E laws_eqTransactionS_r0 s (finish [(4, none)])) (finish [(4, none)])))) ([.val x0, .val x1, .val x5], [])
theorem laws_eqTransactionS_l0_eq (E : Env) (x0 : U) (x1 : U) (x5 : U) : laws_eqTransactionS_l0 E x0 x1 x5 =
 (U.lenOf false x0).bind fun n4 => (U.bin .lss x5 (.int .i64 (n4 : Int))).bind fun t5 => U.asBool t5
 (U.asInt x5 fun n6 => U.elemAt 9 x0 n6 fun e7 => U.asVar true 9 e7 fun e8 => U.asInt x5 fun n9 => U.elemAt 9 x1 n9 fun e10 => U.asVar true 9 e10 fun e11 => (E 177 [e8, e11]).bind fun t12 => (U.un .not t12).bind fun t13 => U.asBool t13
 (some (.bool false))
 ((U.bin .add x5 (.int .i64 1)).bind fun t14 => laws_eqTransactionS_l0 E x0 x1 t14))
 (some (.bool true)) :=
 (loop_eq E _ _ _ _).trans (by kernel_rfl)
structure G_laws_eqTransactionS (E : Env) : Prop where
  is : Is E 176 2 laws_eqTransactionS_ac [(4, none)]
  c_laws_eqTransaction : G_laws_eqTransaction E
theorem laws_eqTransactionS_E {E : Env} (h : G_laws_eqTransactionS E) (a0 a1 : U) : E 176 [a0, a1] =
 (U.lenOf false a0).bind fun n1 => (U.lenOf false a1).bind fun n2 => (U.bin .neq (.int .i64 (n1 : Int)) (.int .i64 (n2 : Int))).bind fun t3 => U.asBool t3
 (some (.bool false))
 (laws_eqTransactionS_l0 E a0 a1 (.int .i64 0)) := (h.is _ rfl).trans ((runQ_V rfl).trans (by kernel_rfl))
end Go.Proofs.Ytfdcdbkblkehcaa.Am
namespace Go.Proofs.Ytfdcdbkblkehcaa.Am
open Go
set_option linter.unusedVariables false
set_option maxRecDepth 100000
def laws_eqLock_ac : AC :=
 (.seq (.region 0 [⟨some 2, .box false 2 (.t 0), none⟩,
  ⟨some 3, .box false 3 (.t 1), none⟩,
  ⟨some 4, .mv (.c (.bool false)), none⟩])
 (.seq (.seq (.region 0 [⟨some 5, .faddr 0 0 (.t 2), none⟩,
  ⟨some 6, .load false 1 (.t 5), none⟩,
  ⟨some 7, .faddr 0 0 (.t 3), none⟩,
  ⟨some 8, .load false 1 (.t 7), none⟩,
  ⟨some 9, .bin .neq (.t 6) (.t 8), none⟩])
 (.cond (.t 9) (.seq (.region 0 [⟨some 4, .mv (.c (.bool false)), none⟩])
 .ret) .skip))
 (.seq (.seq (.region 0 [⟨some 10, .faddr 1 1 (.t 2), none⟩,
  ⟨some 11, .load false 1 (.t 10), none⟩,
  ⟨some 12, .faddr 1 1 (.t 3), none⟩,
  ⟨some 13, .load false 1 (.t 12), none⟩,
  ⟨some 14, .bin .neq (.t 11) (.t 13), none⟩])
 (.cond (.t 14) (.seq (.region 0 [⟨some 4, .mv (.c (.bool false)), none⟩])
 .ret) .skip))
 (.seq (.region 0 [⟨some 4, .mv (.c (.bool true)), none⟩])
 .ret))))
structure G_laws_eqLock (E : Env) : Prop where
  is : Is E 178 2 laws_eqLock_ac [(4, none)]
end Go.Proofs.Ytfdcdbkblkehcaa.Am
namespace Go.Proofs.Ytfdcdbkblkehcaa.Am
open Go
set_option linter.unusedVariables false
set_option maxRecDepth 100000
def laws_eqLockS_b0 : AC :=
 (.seq (.seq (.region 0 [⟨some 11, .mv (.t 5), none⟩,
  ⟨some 12, .mv (.t 0), none⟩,
  ⟨some 13, .len false (.t 12), none⟩,
  ⟨some 14, .bin .lss (.t 11) (.t 13), none⟩])
 (.cond (.t 14) .skip (.exit 0)))
 (.seq (.block 1 (.seq (.region 10 [⟨some 17, .mv (.t 0), none⟩,
  ⟨some 18, .mv (.t 5), none⟩,
  ⟨some 19, .iaddr 2 (.t 17) (.t 18), none⟩,
  ⟨some 20, .load true 2 (.t 19), none⟩,
  ⟨some 21, .mv (.t 1), none⟩,
  ⟨some 22, .mv (.t 5), none⟩,
  ⟨some 23, .iaddr 2 (.t 21) (.t 22), none⟩,
  ⟨some 24, .load true 2 (.t 23), none⟩,
  ⟨some 25, .call false 178 [(.t 20), (.t 24)], none⟩,
  ⟨some 26, .un .not (.t 25), none⟩])
 (.cond (.t 26) (.seq (.region 0 [⟨some 4, .mv (.c (.bool false)), none⟩])
 .ret) .skip)))
 (.region 0 [⟨some 15, .mv (.t 5), none⟩,
  ⟨some 16, .bin .add (.t 15) (.c (.int .i64 1)), none⟩,
  ⟨some 5, .mv (.t 16), none⟩])))
def laws_eqLockS_r0 : AC :=
 (.seq (.region 0 [⟨some 4, .mv (.c (.bool true)), none⟩])
 .ret)
def laws_eqLockS_ac : AC :=
 (.seq (.region 0 [⟨some 4, .mv (.c (.bool false)), none⟩])
 (.seq (.seq (.region 0 [⟨some 6, .mv (.t 0), none⟩,
  ⟨some 7, .len false (.t 6), none⟩,
  ⟨some 8, .mv (.t 1), none⟩,
  ⟨some 9, .len false (.t 8), none⟩,
  ⟨some 10, .bin .neq (.t 7) (.t 9), none⟩])
 (.cond (.t 10) (.seq (.region 0 [⟨some 4, .mv (.c (.bool false)), none⟩])
 .ret) .skip))
 (.seq (.seq (.region 0 [⟨some 5, .mv (.c (.int .i64 0)), none⟩])
 (.block 0 (.loop ⟨[0, 1, 5], [], []⟩ laws_eqLockS_b0)))
 laws_eqLockS_r0)))
noncomputable def laws_eqLockS_l0 (E : Env) (x0 : U) (x1 : U) (x5 : U) : Option U := loopK (roundOf E ⟨[0, 1, 5], [], []⟩ laws_eqLockS_b0 (blockK 0 (seqK (fun s => exec E laws_eqLockS_r0 s (finish [(4, none)])) (finish [(4, none)])))) ([.val x0, .val x1, .val x5], [])
theorem laws_eqLockS_l0_eq (E : Env) (x0 : U) (x1 : U) (x5 : U) : laws_eqLockS_l0 E x0 x1 x5 =
 (U.lenOf false x0).bind fun n4 => (U.bin .lss x5 (.int .i64 (n4 : Int))).bind fun t5 => U.asBool t5
 (U.asInt x5 fun n6 => U.elemAt 2 x0 n6 fun e7 => U.asVar true 2 e7 fun e8 => U.asInt x5 fun n9 => U.elemAt 2 x1 n9 fun e10 => U.asVar true 2 e10 fun e11 => (E 178 [e8, e11]).bind fun t12 => (U.un .not t12).bind fun t13 => U.asBool t13
 (some (.bool false))
 ((U.bin .add x5 (.int .i64 1)).bind fun t14 => laws_eqLockS_l0 E x0 x1 t14))
 (some (.bool true)) :=
 (loop_eq E _ _ _ _).trans (by kernel_rfl)
structure G_laws_eqLockS (E : Env) : Prop where
  is : Is E 175 2 laws_eqLockS_ac [(4, none)]
  c_laws_eqLock : G_laws_eqLock E
theorem laws_eqLockS_E {E : Env} (h : G_laws_eqLockS E) (a0 a1 : U) : E 175 [a0, a1] =
 (U.lenOf false a0).bind fun n1 => (U.lenOf false a1).bind fun n2 => (U.bin .neq (.int .i64 (n1 : Int)) (.int .i64 (n2 : Int))).bind fun t3 => U.asBool t3
 (some (.bool false))
 (laws_eqLockS_l0 E a0 a1 (.int .i64 0)) := (h.is _ rfl).trans ((runQ_V rfl).trans (by kernel_rfl))
end Go.Proofs.Ytfdcdbkblkehcaa.Am
namespace Go.Proofs.Ytfdcdbkblkehcaa.Am
open Go
set_option linter.unusedVariables false
set_option maxRecDepth 100000
def laws_eqWait_ac : AC :=
 (.seq (.region 0 [⟨some 2, .box false 2 (.t 0), none⟩,
  ⟨some 3, .box false 3 (.t 1), none⟩,
  ⟨some 4, .mv (.c (.bool false)), none⟩])
 (.seq (.seq (.region 0 [⟨some 5, .faddr 0 0 (.t 2), none⟩,
  ⟨some 6, .load false 1 (.t 5), none⟩,
  ⟨some 7, .faddr 0 0 (.t 3), none⟩,
  ⟨some 8, .load false 1 (.t 7), none⟩,
  ⟨some 9, .bin .neq (.t 6) (.t 8), none⟩])
 (.cond (.t 9) (.seq (.region 0 [⟨some 4, .mv (.c (.bool false)), none⟩])
 .ret) .skip))
 (.seq (.seq (.region 0 [⟨some 10, .faddr 1 1 (.t 2), none⟩,
  ⟨some 11, .load false 1 (.t 10), none⟩,
  ⟨some 12, .faddr 1 1 (.t 3), none⟩,
  ⟨some 13, .load false 1 (.t 12), none⟩,
  ⟨some 14, .bin .neq (.t 11) (.t 13), none⟩])
 (.cond (.t 14) (.seq (.region 0 [⟨some 4, .mv (.c (.bool false)), none⟩])
 .ret) .skip))
 (.seq (.region 0 [⟨some 4, .mv (.c (.bool true)), none⟩])
 .ret))))
structure G_laws_eqWait (E : Env) : Prop where
  is : Is E 179 2 laws_eqWait_ac [(4, none)]
end Go.Proofs.Ytfdcdbkblkehcaa.Am
namespace Go.Proofs.Ytfdcdbkblkehcaa.Am
open Go
set_option linter.unusedVariables false
set_option maxRecDepth 100000
def laws_eqWaitS_b0 : AC :=
 (.seq (.seq (.region 0 [⟨some 11, .mv (.t 5), none⟩,
  ⟨some 12, .mv (.t 0), none⟩,
  ⟨some 13, .len false (.t 12), none⟩,
  ⟨some 14, .bin .lss (.t 11) (.t 13), none⟩])
 (.cond (.t 14) .skip (.exit 0)))
 (.seq (.block 1 (.seq (.region 10 [⟨some 17, .mv (.t 0), none⟩,
  ⟨some 18, .mv (.t 5), none⟩,
  ⟨some 19, .iaddr 2 (.t 17) (.t 18), none⟩,
  ⟨some 20, .load true 2 (.t 19), none⟩,
  ⟨some 21, .mv (.t 1), none⟩,
  ⟨some 22, .mv (.t 5), none⟩,
  ⟨some 23, .iaddr 2 (.t 21) (.t 22), none⟩,
  ⟨some 24, .load true 2 (.t 23), none⟩,
  ⟨some 25, .call false 179 [(.t 20), (.t 24)], none⟩,
  ⟨some 26, .un .not (.t 25), none⟩])
 (.cond (.t 26) (.seq (.region 0 [⟨some 4, .mv (.c (.bool false)), none⟩])
 .ret) .skip)))
 (.region 0 [⟨some 15, .mv (.t 5), none⟩,
  ⟨some 16, .bin .add (.t 15) (.c (.int .i64 1)), none⟩,
  ⟨some 5, .mv (.t 16), none⟩])))
def laws_eqWaitS_r0 : AC :=
 (.seq (.region 0 [⟨some 4, .mv (.c (.bool true)), none⟩])
 .ret)
def laws_eqWaitS_ac : AC :=
 (.seq (.region 0 [⟨some 4, .mv (.c (.bool false)), none⟩])
 (.seq (.seq (.region 0 [⟨some 6, .mv (.t 0), none⟩,
  ⟨some 7, .len false (.t 6), none⟩,
  ⟨some 8, .mv (.t 1), none⟩,
  ⟨some 9, .len false (.t 8), none⟩,
  ⟨some 10, .bin .neq (.t 7) (.t 9), none⟩])
 (.cond (.t 10) (.seq (.region 0 [⟨some 4, .mv (.c (.bool false)), none⟩])
 .ret) .skip))
 (.seq (.seq (.region 0 [⟨some 5, .mv (.c (.int .i64 0)), none⟩])
 (.block 0 (.loop ⟨[0, 1, 5], [], []⟩ laws_eqWaitS_b0)))
 laws_eqWaitS_r0)))
noncomputable def laws_eqWaitS_l0 (E : Env) (x0 : U) (x1 : U) (x5 : U) : Option U := loopK (roundOf E ⟨[0, 1, 5], [], []⟩ laws_eqWaitS_b0 (blockK 0 (seqK (fun s => exec E laws_eqWaitS_r0 s (finish [(4, none)])) (finish [(4, none)])))) ([.val x0, .val x1, .val x5], [])
theorem laws_eqWaitS_l0_eq (E : Env) (x0 : U) (x1 : U) (x5 : U) : laws_eqWaitS_l0 E x0 x1 x5 =
 (U.lenOf false x0).bind fun n4 => (U.bin .lss x5 (.int .i64 (n4 : Int))).bind fun t5 => U.asBool t5
 (U.asInt x5 fun n6 => U.elemAt 2 x0 n6 fun e7 => U.asVar true 2 e7 fun e8 => U.asInt x5 fun n9 => U.elemAt 2 x1 n9 fun e10 => U.asVar true 2 e10 fun e11 => (E 179 [e8, e11]).bind fun t12 => (U.un .not t12).bind fun t13 => U.asBool t13
 (some (.bool false))
 ((U.bin .add x5 (.int .i64 1)).bind fun t14 => laws_eqWaitS_l0 E x0 x1 t14))
 (some (.bool true)) :=
 (loop_eq E _ _ _ _).trans (by kernel_rfl)
structure G_laws_eqWaitS (E : Env) : Prop where
  is : Is E 174 2 laws_eqWaitS_ac [(4, none)]
  c_laws_eqWait : G_laws_eqWait E
theorem laws_eqWaitS_E {E : Env} (h : G_laws_eqWaitS E) (a0 a1 : U) : E 174 [a0, a1] =
 (U.lenOf false a0).bind fun n1 => (U.lenOf false a1).bind fun n2 => (U.bin .neq (.int .i64 (n1 : Int)) (.int .i64 (n2 : Int))).bind fun t3 => U.asBool t3
 (some (.bool false))
 (laws_eqWaitS_l0 E a0 a1 (.int .i64 0)) := (h.is _ rfl).trans ((runQ_V rfl).trans (by kernel_rfl))
end Go.Proofs.Ytfdcdbkblkehcaa.Am
namespace Go.Proofs.Ytfdcdbkblkehcaa.Am
open Go
set_option linter.unusedVariables false
set_option maxRecDepth 100000
def laws_eqEngine_ac : AC :=
 (.seq (.region 0 [⟨some 2, .box false 2 (.t 0), none⟩,
  ⟨some 3, .box false 3 (.t 1), none⟩,
  ⟨some 4, .mv (.c (.bool false)), none⟩])
 (.seq (.seq (.region 0 [⟨some 5, .faddr 0 0 (.t 2), none⟩,
  ⟨some 6, .load false 1 (.t 5), none⟩,
  ⟨some 7, .faddr 0 0 (.t 3), none⟩,
  ⟨some 8, .load false 1 (.t 7), none⟩,
  ⟨some 9, .eqv true 0 (.t 6) (.t 8), none⟩])
 (.cond (.t 9) (.seq (.region 0 [⟨some 4, .mv (.c (.bool false)), none⟩])
 .ret) .skip))
 (.seq (.seq (.region 0 [⟨some 10, .faddr 1 1 (.t 2), none⟩,
  ⟨some 11, .load true 1 (.t 10), none⟩,
  ⟨some 12, .faddr 1 1 (.t 3), none⟩,
  ⟨some 13, .load true 1 (.t 12), none⟩,
  ⟨some 14, .call false 97 [(.t 11), (.t 13)], none⟩,
  ⟨some 15, .un .not (.t 14), none⟩])
 (.cond (.t 15) (.seq (.region 0 [⟨some 4, .mv (.c (.bool false)), none⟩])
 .ret) .skip))
 (.seq (.seq (.region 0 [⟨some 16, .faddr 2 2 (.t 2), none⟩,
  ⟨some 17, .load false 1 (.t 16), none⟩,
  ⟨some 18, .faddr 2 2 (.t 3), none⟩,
  ⟨some 19, .load false 1 (.t 18), none⟩,
  ⟨some 20, .call false 176 [(.t 17), (.t 19)], none⟩,
  ⟨some 21, .un .not (.t 20), none⟩])
 (.cond (.t 21) (.seq (.region 0 [⟨some 4, .mv (.c (.bool false)), none⟩])
 .ret) .skip))
 (.seq (.seq (.region 0 [⟨some 22, .faddr 3 3 (.t 2), none⟩,
  ⟨some 23, .load false 1 (.t 22), none⟩,
  ⟨some 24, .faddr 3 3 (.t 3), none⟩,
  ⟨some 25, .load false 1 (.t 24), none⟩,
  ⟨some 26, .call false 175 [(.t 23), (.t 25)], none⟩,
  ⟨some 27, .un .not (.t 26), none⟩])
 (.cond (.t 27) (.seq (.region 0 [⟨some 4, .mv (.c (.bool false)), none⟩])
 .ret) .skip))
 (.seq (.seq (.region 0 [⟨some 28, .faddr 4 4 (.t 2), none⟩,
  ⟨some 29, .load false 1 (.t 28), none⟩,
  ⟨some 30, .faddr 4 4 (.t 3), none⟩,
  ⟨some 31, .load false 1 (.t 30), none⟩,
  ⟨some 32, .call false 174 [(.t 29), (.t 31)], none⟩,
  ⟨some 33, .un .not (.t 32), none⟩])
 (.cond (.t 33) (.seq (.region 0 [⟨some 4, .mv (.c (.bool false)), none⟩])
 .ret) .skip))
 (.seq (.seq (.region 0 [⟨some 34, .faddr 5 5 (.t 2), none⟩,
  ⟨some 35, .load false 1 (.t 34), none⟩,
  ⟨some 36, .faddr 5 5 (.t 3), none⟩,
  ⟨some 37, .load false 1 (.t 36), none⟩,
  ⟨some 38, .bin .neq (.t 35) (.t 37), none⟩])
 (.cond (.t 38) (.seq (.region 0 [⟨some 4, .mv (.c (.bool false)), none⟩])
 .ret) .skip))
 (.seq (.region 0 [⟨some 4, .mv (.c (.bool true)), none⟩])
 .ret))))))))
structure G_laws_eqEngine (E : Env) : Prop where
  is : Is E 125 2 laws_eqEngine_ac [(4, none)]
  c_laws_eqStore : G_laws_eqStore E
  c_laws_eqTransactionS : G_laws_eqTransactionS E
  c_laws_eqLockS : G_laws_eqLockS E
  c_laws_eqWaitS : G_laws_eqWaitS E
theorem laws_eqEngine_E {E : Env} (h : G_laws_eqEngine E) (a0 a1 : U) : E 125 [a0, a1] =
 U.noTup a0 fun x1 => U.noTup a1 fun x2 => U.asAgg x1 fun us3 => if 0 = sizes (us3.take 0) then (us3[0]?).bind fun e4 => U.asVar false 1 e4 fun e5 => U.asAgg x2 fun us6 => if 0 = sizes (us6.take 0) then (us6[0]?).bind fun e7 => U.asVar false 1 e7 fun e8 => (U.eqv 0 e5 e8).bind fun q9 => U.asBool (.bool (!q9))
 (some (.bool false))
 (U.asAgg x1 fun us10 => if 1 = sizes (us10.take 1) then (us10[1]?).bind fun e11 => U.asVar true 1 e11 fun e12 => U.asAgg x2 fun us13 => if 1 = sizes (us13.take 1) then (us13[1]?).bind fun e14 => U.asVar true 1 e14 fun e15 => (E 97 [e12, e15]).bind fun t16 => (U.un .not t16).bind fun t17 => U.asBool t17
 (some (.bool false))
 (U.asAgg x1 fun us18 => if 2 = sizes (us18.take 2) then (us18[2]?).bind fun e19 => U.asVar false 1 e19 fun e20 => U.asAgg x2 fun us21 => if 2 = sizes (us21.take 2) then (us21[2]?).bind fun e22 => U.asVar false 1 e22 fun e23 => (E 176 [e20, e23]).bind fun t24 => (U.un .not t24).bind fun t25 => U.asBool t25
 (some (.bool false))
 (U.asAgg x1 fun us26 => if 3 = sizes (us26.take 3) then (us26[3]?).bind fun e27 => U.asVar false 1 e27 fun e28 => U.asAgg x2 fun us29 => if 3 = sizes (us29.take 3) then (us29[3]?).bind fun e30 => U.asVar false 1 e30 fun e31 => (E 175 [e28, e31]).bind fun t32 => (U.un .not t32).bind fun t33 => U.asBool t33
 (some (.bool false))
 (U.asAgg x1 fun us34 => if 4 = sizes (us34.take 4) then (us34[4]?).bind fun e35 => U.asVar false 1 e35 fun e36 => U.asAgg x2 fun us37 => if 4 = sizes (us37.take 4) then (us37[4]?).bind fun e38 => U.asVar false 1 e38 fun e39 => (E 174 [e36, e39]).bind fun t40 => (U.un .not t40).bind fun t41 => U.asBool t41
 (some (.bool false))
 (U.asAgg x1 fun us42 => if 5 = sizes (us42.take 5) then (us42[5]?).bind fun e43 => U.asVar false 1 e43 fun e44 => U.asAgg x2 fun us45 => if 5 = sizes (us45.take 5) then (us45[5]?).bind fun e46 => U.asVar false 1 e46 fun e47 => (U.bin .neq e44 e47).bind fun t48 => U.asBool t48
 (some (.bool false))
 (some (.bool true)) else none else none) else none else none) else none else none) else none else none) else none else none) else none else none := (h.is _ rfl).trans ((runQ_V rfl).trans (by kernel_rfl))
end Go.Proofs.Ytfdcdbkblkehcaa.Am
namespace Go.Proofs.Ytfdcdbkblkehcaa.Am
open Go
set_option linter.unusedVariables false
set_option maxRecDepth 100000
def laws_eqNode_ac : AC :=
 (.seq (.region 0 [⟨some 2, .box false 2 (.t 0), none⟩,
  ⟨some 3, .box false 3 (.t 1), none⟩,
  ⟨some 4, .mv (.c (.bool false)), none⟩])
 (.seq (.seq (.region 0 [⟨some 5, .faddr 0 0 (.t 2), none⟩,
  ⟨some 6, .load true 6 (.t 5), none⟩,
  ⟨some 7, .faddr 0 0 (.t 3), none⟩,
  ⟨some 8, .load true 6 (.t 7), none⟩,
  ⟨some 9, .call false 125 [(.t 6), (.t 8)], none⟩,
  ⟨some 10, .un .not (.t 9), none⟩])
 (.cond (.t 10) (.seq (.region 0 [⟨some 4, .mv (.c (.bool false)), none⟩])
 .ret) .skip))
 (.seq (.seq (.region 0 [⟨some 11, .faddr 1 6 (.t 2), none⟩,
  ⟨some 12, .load false 1 (.t 11), none⟩,
  ⟨some 13, .faddr 1 6 (.t 3), none⟩,
  ⟨some 14, .load false 1 (.t 13), none⟩,
  ⟨some 15, .bin .neq (.t 12) (.t 14), none⟩])
 (.cond (.t 15) (.seq (.region 0 [⟨some 4, .mv (.c (.bool false)), none⟩])
 .ret) .skip))
 (.seq (.region 0 [⟨some 4, .mv (.c (.bool true)), none⟩])
 .ret))))
structure G_laws_eqNode (E : Env) : Prop where
  is : Is E 260 2 laws_eqNode_ac [(4, none)]
  c_laws_eqEngine : G_laws_eqEngine E
theorem laws_eqNode_E {E : Env} (h : G_laws_eqNode E) (a0 a1 : U) : E 260 [a0, a1] =
 U.noTup a0 fun x1 => U.noTup a1 fun x2 => U.asAgg x1 fun us3 => if 0 = sizes (us3.take 0) then (us3[0]?).bind fun e4 => U.asVar true 6 e4 fun e5 => U.asAgg x2 fun us6 => if 0 = sizes (us6.take 0) then (us6[0]?).bind fun e7 => U.asVar true 6 e7 fun e8 => (E 125 [e5, e8]).bind fun t9 => (U.un .not t9).bind fun t10 => U.asBool t10
 (some (.bool false))
 (U.asAgg x1 fun us11 => if 6 = sizes (us11.take 1) then (us11[1]?).bind fun e12 => U.asVar false 1 e12 fun e13 => U.asAgg x2 fun us14 => if 6 = sizes (us14.take 1) then (us14[1]?).bind fun e15 => U.asVar false 1 e15 fun e16 => (U.bin .neq e13 e16).bind fun t17 => U.asBool t17
 (some (.bool false))
 (some (.bool true)) else none else none) else none else none := (h.is _ rfl).trans ((runQ_V rfl).trans (by kernel_rfl))
end Go.Proofs.Ytfdcdbkblkehcaa.Am
namespace Go.Proofs.Ytfdcdbkblkehcaa.Am
open Go
set_option linter.unusedVariables false
set_option maxRecDepth 100000
def laws_heldVersionS_b0 : AC :=
 (.seq (.seq (.region 0 [⟨some 6, .mv (.t 5), none⟩,
  ⟨some 7, .mv (.t 0), none⟩,
  ⟨some 8, .len false (.t 7), none⟩,
  ⟨some 9, .bin .lss (.t 6) (.t 8), none⟩])
 (.cond (.t 9) .skip (.exit 0)))
 (.seq (.block 1 (.seq (.seq (.region 0 [⟨some 12, .mv (.t 0), none⟩,
  ⟨some 13, .mv (.t 5), none⟩,
  ⟨some 14, .iaddr 5 (.t 12) (.t 13), none⟩,
  ⟨some 15, .faddr 0 0 (.t 14), none⟩,
  ⟨some 16, .load false 1 (.t 15), none⟩,
  ⟨some 17, .mv (.t 1), none⟩,
  ⟨some 18, .bin .neq (.t 16) (.t 17), none⟩])
 (.cond (.t 18) (.seq (.region 0 [⟨some 4, .mv (.c (.int .i64 (-1))), none⟩])
 .ret) .skip))
 (.seq (.region 0 [⟨some 19, .mv (.t 1), none⟩,
  ⟨some 20, .bin .add (.t 19) (.c (.int .i64 1)), none⟩,
  ⟨some 1, .mv (.t 20), none⟩])
 (.seq (.seq (.region 0 [⟨some 21, .mv (.t 0), none⟩,
  ⟨some 22, .mv (.t 5), none⟩,
  ⟨some 23, .iaddr 5 (.t 21) (.t 22), none⟩,
  ⟨some 24, .faddr 1 1 (.t 23), none⟩,
  ⟨some 25, .load false 1 (.t 24), none⟩,
  ⟨some 26, .mv (.t 1), none⟩,
  ⟨some 27, .bin .neq (.t 25) (.t 26), none⟩])
 (.cond (.t 27) (.seq (.region 0 [⟨some 4, .mv (.c (.int .i64 (-1))), none⟩])
 .ret) .skip))
 (.seq (.region 0 [⟨some 28, .mv (.t 1), none⟩,
  ⟨some 29, .bin .add (.t 28) (.c (.int .i64 1)), none⟩,
  ⟨some 1, .mv (.t 29), none⟩])
 (.seq (.seq (.region 0 [⟨some 30, .mv (.t 0), none⟩,
  ⟨some 31, .mv (.t 5), none⟩,
  ⟨some 32, .iaddr 5 (.t 30) (.t 31), none⟩,
  ⟨some 33, .faddr 2 2 (.t 32), none⟩,
  ⟨some 34, .load false 1 (.t 33), none⟩,
  ⟨some 35, .mv (.t 1), none⟩,
  ⟨some 36, .bin .neq (.t 34) (.t 35), none⟩])
 (.cond (.t 36) (.seq (.region 0 [⟨some 4, .mv (.c (.int .i64 (-1))), none⟩])
 .ret) .skip))
 (.seq (.region 0 [⟨some 37, .mv (.t 1), none⟩,
  ⟨some 38, .bin .add (.t 37) (.c (.int .i64 1)), none⟩,
  ⟨some 1, .mv (.t 38), none⟩])
 (.seq (.seq (.region 0 [⟨some 39, .mv (.t 0), none⟩,
  ⟨some 40, .mv (.t 5), none⟩,
  ⟨some 41, .iaddr 5 (.t 39) (.t 40), none⟩,
  ⟨some 42, .faddr 3 3 (.t 41), none⟩,
  ⟨some 43, .load false 1 (.t 42), none⟩,
  ⟨some 44, .mv (.t 1), none⟩,
  ⟨some 45, .bin .neq (.t 43) (.t 44), none⟩])
 (.cond (.t 45) (.seq (.region 0 [⟨some 4, .mv (.c (.int .i64 (-1))), none⟩])
 .ret) .skip))
 (.seq (.region 0 [⟨some 46, .mv (.t 1), none⟩,
  ⟨some 47, .bin .add (.t 46) (.c (.int .i64 1)), none⟩,
  ⟨some 1, .mv (.t 47), none⟩])
 (.seq (.seq (.region 0 [⟨some 48, .mv (.t 0), none⟩,
  ⟨some 49, .mv (.t 5), none⟩,
  ⟨some 50, .iaddr 5 (.t 48) (.t 49), none⟩,
  ⟨some 51, .faddr 4 4 (.t 50), none⟩,
  ⟨some 52, .load false 1 (.t 51), none⟩,
  ⟨some 53, .mv (.t 1), none⟩,
  ⟨some 54, .bin .neq (.t 52) (.t 53), none⟩])
 (.cond (.t 54) (.seq (.region 0 [⟨some 4, .mv (.c (.int .i64 (-1))), none⟩])
 .ret) .skip))
 (.region 0 [⟨some 55, .mv (.t 1), none⟩,
  ⟨some 56, .bin .add (.t 55) (.c (.int .i64 1)), none⟩,
  ⟨some 1, .mv (.t 56), none⟩])))))))))))
 (.region 0 [⟨some 10, .mv (.t 5), none⟩,
  ⟨some 11, .bin .add (.t 10) (.c (.int .i64 1)), none⟩,
  ⟨some 5, .mv (.t 11), none⟩])))
def laws_heldVersionS_r0 : AC :=
 (.seq (.region 0 [⟨some 57, .mv (.t 1), none⟩,
  ⟨some 4, .mv (.t 57), none⟩])
 .ret)
def laws_heldVersionS_ac : AC :=
 (.seq (.region 0 [⟨some 4, .mv (.c (.int .i64 0)), none⟩])
 (.seq (.seq (.region 0 [⟨some 5, .mv (.c (.int .i64 0)), none⟩])
 (.block 0 (.loop ⟨[0, 1, 5], [], []⟩ laws_heldVersionS_b0)))
 laws_heldVersionS_r0))
noncomputable def laws_heldVersionS_l0 (E : Env) (x0 : U) (x1 : U) (x5 : U) : Option U := loopK (roundOf E ⟨[0, 1, 5], [], []⟩ laws_heldVersionS_b0 (blockK 0 (seqK (fun s => exec E laws_heldVersionS_r0 s (finish [(4, none)])) (finish [(4, none)])))) ([.val x0, .val x1, .val x5], [])
theorem laws_heldVersionS_l0_eq (E : Env) (x0 : U) (x1 : U) (x5 : U) : laws_heldVersionS_l0 E x0 x1 x5 =
 (U.lenOf false x0).bind fun n1 => (U.bin .lss x5 (.int .i64 (n1 : Int))).bind fun t2 => U.asBool t2
 (U.asInt x5 fun n3 => U.elemAt 5 x0 n3 fun e4 => U.fieldAt 0 0 e4 fun f5 => U.asVar false 1 f5 fun e6 => (U.bin .neq e6 x1).bind fun t7 => U.asBool t7
 (some (.int .i64 (-1)))
 ((U.bin .add x1 (.int .i64 1)).bind fun t8 => U.asInt x5 fun n9 => U.elemAt 5 x0 n9 fun e10 => U.fieldAt 1 1 e10 fun f11 => U.asVar false 1 f11 fun e12 => (U.bin .neq e12 t8).bind fun t13 => U.asBool t13
 (some (.int .i64 (-1)))
 ((U.bin .add t8 (.int .i64 1)).bind fun t14 => U.asInt x5 fun n15 => U.elemAt 5 x0 n15 fun e16 => U.fieldAt 2 2 e16 fun f17 => U.asVar false 1 f17 fun e18 => (U.bin .neq e18 t14).bind fun t19 => U.asBool t19
 (some (.int .i64 (-1)))
 ((U.bin .add t14 (.int .i64 1)).bind fun t20 => U.asInt x5 fun n21 => U.elemAt 5 x0 n21 fun e22 => U.fieldAt 3 3 e22 fun f23 => U.asVar false 1 f23 fun e24 => (U.bin .neq e24 t20).bind fun t25 => U.asBool t25
 (some (.int .i64 (-1)))
 ((U.bin .add t20 (.int .i64 1)).bind fun t26 => U.asInt x5 fun n27 => U.elemAt 5 x0 n27 fun e28 => U.fieldAt 4 4 e28 fun f29 => U.asVar false 1 f29 fun e30 => (U.bin .neq e30 t26).bind fun t31 => U.asBool t31
 (some (.int .i64 (-1)))
 ((U.bin .add t26 (.int .i64 1)).bind fun t32 => (U.bin .add x5 (.int .i64 1)).bind fun t33 => laws_heldVersionS_l0 E x0 t32 t33))))))
 (some x1) :=
 (loop_eq E _ _ _ _).trans (by kernel_rfl)
structure G_laws_heldVersionS (E : Env) : Prop where
  is : Is E 234 2 laws_heldVersionS_ac [(4, none)]
theorem laws_heldVersionS_E {E : Env} (h : G_laws_heldVersionS E) (a0 a1 : U) : E 234 [a0, a1] =
 laws_heldVersionS_l0 E a0 a1 (.int .i64 0) := (h.is _ rfl).trans ((runQ_V rfl).trans (by kernel_rfl))
end Go.Proofs.Ytfdcdbkblkehcaa.Am
namespace Go.Proofs.Ytfdcdbkblkehcaa.Am
open Go
set_option linter.unusedVariables false
set_option maxRecDepth 100000
def laws_heldVersionSS_b0 : AC :=
 (.seq (.seq (.region 0 [⟨some 6, .mv (.t 5), none⟩,
  ⟨some 7, .mv (.t 0), none⟩,
  ⟨some 8, .len false (.t 7), none⟩,
  ⟨some 9, .bin .lss (.t 6) (.t 8), none⟩])
 (.cond (.t 9) .skip (.exit 0)))
 (.seq (.block 1 (.seq (.region 0 [⟨some 12, .mv (.t 0), none⟩,
  ⟨some 13, .mv (.t 5), none⟩,
  ⟨some 14, .iaddr 1 (.t 12) (.t 13), none⟩,
  ⟨some 15, .load false 1 (.t 14), none⟩,
  ⟨some 16, .mv (.t 1), none⟩,
  ⟨some 17, .call false 234 [(.t 15), (.t 16)], none⟩,
  ⟨some 1, .mv (.t 17), none⟩])
 (.seq (.region 0 [⟨some 18, .mv (.t 1), none⟩,
  ⟨some 19, .bin .lss (.t 18) (.c (.int .i64 0)), none⟩])
 (.cond (.t 19) (.seq (.region 0 [⟨some 4, .mv (.c (.int .i64 (-1))), none⟩])
 .ret) .skip))))
 (.region 0 [⟨some 10, .mv (.t 5), none⟩,
  ⟨some 11, .bin .add (.t 10) (.c (.int .i64 1)), none⟩,
  ⟨some 5, .mv (.t 11), none⟩])))
def laws_heldVersionSS_r0 : AC :=
 (.seq (.region 0 [⟨some 20, .mv (.t 1), none⟩,
  ⟨some 4, .mv (.t 20), none⟩])
 .ret)
def laws_heldVersionSS_ac : AC :=
 (.seq (.region 0 [⟨some 4, .mv (.c (.int .i64 0)), none⟩])
 (.seq (.seq (.region 0 [⟨some 5, .mv (.c (.int .i64 0)), none⟩])
 (.block 0 (.loop ⟨[0, 1, 5], [], []⟩ laws_heldVersionSS_b0)))
 laws_heldVersionSS_r0))
noncomputable def laws_heldVersionSS_l0 (E : Env) (x0 : U) (x1 : U) (x5 : U) : Option U := loopK (roundOf E ⟨[0, 1, 5], [], []⟩ laws_heldVersionSS_b0 (blockK 0 (seqK (fun s => exec E laws_heldVersionSS_r0 s (finish [(4, none)])) (finish [(4, none)])))) ([.val x0, .val x1, .val x5], [])
theorem laws_heldVersionSS_l0_eq (E : Env) (x0 : U) (x1 : U) (x5 : U) : laws_heldVersionSS_l0 E x0 x1 x5 =
 (U.lenOf false x0).bind fun n1 => (U.bin .lss x5 (.int .i64 (n1 : Int))).bind fun t2 => U.asBool t2
 (U.asInt x5 fun n3 => U.elemAt 1 x0 n3 fun e4 => U.asVar false 1 e4 fun e5 => (E 234 [e5, x1]).bind fun t6 => (U.bin .lss t6 (.int .i64 0)).bind fun t7 => U.asBool t7
 (some (.int .i64 (-1)))
 ((U.bin .add x5 (.int .i64 1)).bind fun t8 => laws_heldVersionSS_l0 E x0 t6 t8))
 (some x1) :=
 (loop_eq E _ _ _ _).trans (by kernel_rfl)
structure G_laws_heldVersionSS (E : Env) : Prop where
  is : Is E 233 2 laws_heldVersionSS_ac [(4, none)]
  c_laws_heldVersionS : G_laws_heldVersionS E
theorem laws_heldVersionSS_E {E : Env} (h : G_laws_heldVersionSS E) (a0 a1 : U) : E 233 [a0, a1] =
 laws_heldVersionSS_l0 E a0 a1 (.int .i64 0) := (h.is _ rfl).trans ((runQ_V rfl).trans (by kernel_rfl))
end Go.Proofs.Ytfdcdbkblkehcaa.Am
namespace Go.Proofs.Ytfdcdbkblkehcaa.Am
open Go
set_option linter.unusedVariables false
set_option maxRecDepth 100000
def laws_heldStore_ac : AC :=
 (.seq (.region 0 [⟨some 2, .box false 2 (.t 0), none⟩,
  ⟨some 4, .mv (.c (.int .i64 0)), none⟩])
 (.seq (.region 0 [⟨some 5, .faddr 0 0 (.t 2), none⟩,
  ⟨some 6, .load false 1 (.t 5), none⟩,
  ⟨some 7, .mv (.t 1), none⟩,
  ⟨some 8, .call false 233 [(.t 6), (.t 7)], none⟩,
  ⟨some 1, .mv (.t 8), none⟩])
 (.seq (.seq (.region 0 [⟨some 9, .mv (.t 1), none⟩,
  ⟨some 10, .bin .lss (.t 9) (.c (.int .i64 0)), none⟩])
 (.cond (.t 10) (.seq (.region 0 [⟨some 4, .mv (.c (.int .i64 (-1))), none⟩])
 .ret) .skip))
 (.seq (.region 0 [⟨some 11, .mv (.t 1), none⟩,
  ⟨some 4, .mv (.t 11), none⟩])
 .ret))))
structure G_laws_heldStore (E : Env) : Prop where
  is : Is E 206 2 laws_heldStore_ac [(4, none)]
  c_laws_heldVersionSS : G_laws_heldVersionSS E
theorem laws_heldStore_E {E : Env} (h : G_laws_heldStore E) (a0 a1 : U) : E 206 [a0, a1] =
 U.noTup a0 fun x1 => U.asAgg x1 fun us2 => if 0 = sizes (us2.take 0) then (us2[0]?).bind fun e3 => U.asVar false 1 e3 fun e4 => (E 233 [e4, a1]).bind fun t5 => (U.bin .lss t5 (.int .i64 0)).bind fun t6 => U.asBool t6
 (some (.int .i64 (-1)))
 (some t5) else none := (h.is _ rfl).trans ((runQ_V rfl).trans (by kernel_rfl))
end Go.Proofs.Ytfdcdbkblkehcaa.Am
namespace Go.Proofs.Ytfdcdbkblkehcaa.Am
open Go
set_option linter.unusedVariables false
set_option maxRecDepth 100000
def laws_heldReadMarkS_b0 : AC :=
 (.seq (.seq (.region 0 [⟨some 6, .mv (.t 5), none⟩,
  ⟨some 7, .mv (.t 0), none⟩,
  ⟨some 8, .len false (.t 7), none⟩,
  ⟨some 9, .bin .lss (.t 6) (.t 8), none⟩])
 (.cond (.t 9) .skip (.exit 0)))
 (.seq (.block 1 (.seq (.seq (.region 0 [⟨some 12, .mv (.t 0), none⟩,
  ⟨some 13, .mv (.t 5), none⟩,
  ⟨some 14, .iaddr 2 (.t 12) (.t 13), none⟩,
  ⟨some 15, .faddr 0 0 (.t 14), none⟩,
  ⟨some 16, .load false 1 (.t 15), none⟩,
  ⟨some 17, .mv (.t 1), none⟩,
  ⟨some 18, .bin .neq (.t 16) (.t 17), none⟩])
 (.cond (.t 18) (.seq (.region 0 [⟨some 4, .mv (.c (.int .i64 (-1))), none⟩])
 .ret) .skip))
 (.seq (.region 0 [⟨some 19, .mv (.t 1), none⟩,
  ⟨some 20, .bin .add (.t 19) (.c (.int .i64 1)), none⟩,
  ⟨some 1, .mv (.t 20), none⟩])
 (.seq (.seq (.region 0 [⟨some 21, .mv (.t 0), none⟩,
  ⟨some 22, .mv (.t 5), none⟩,
  ⟨some 23, .iaddr 2 (.t 21) (.t 22), none⟩,
  ⟨some 24, .faddr 1 1 (.t 23), none⟩,
  ⟨some 25, .load false 1 (.t 24), none⟩,
  ⟨some 26, .mv (.t 1), none⟩,
  ⟨some 27, .bin .neq (.t 25) (.t 26), none⟩])
 (.cond (.t 27) (.seq (.region 0 [⟨some 4, .mv (.c (.int .i64 (-1))), none⟩])
 .ret) .skip))
 (.region 0 [⟨some 28, .mv (.t 1), none⟩,
  ⟨some 29, .bin .add (.t 28) (.c (.int .i64 1)), none⟩,
  ⟨some 1, .mv (.t 29), none⟩])))))
 (.region 0 [⟨some 10, .mv (.t 5), none⟩,
  ⟨some 11, .bin .add (.t 10) (.c (.int .i64 1)), none⟩,
  ⟨some 5, .mv (.t 11), none⟩])))
def laws_heldReadMarkS_r0 : AC :=
 (.seq (.region 0 [⟨some 30, .mv (.t 1), none⟩,
  ⟨some 4, .mv (.t 30), none⟩])
 .ret)
def laws_heldReadMarkS_ac : AC :=
 (.seq (.region 0 [⟨some 4, .mv (.c (.int .i64 0)), none⟩])
 (.seq (.seq (.region 0 [⟨some 5, .mv (.c (.int .i64 0)), none⟩])
 (.block 0 (.loop ⟨[0, 1, 5], [], []⟩ laws_heldReadMarkS_b0)))
 laws_heldReadMarkS_r0))
structure G_laws_heldReadMarkS (E : Env) : Prop where
  is : Is E 92 2 laws_heldReadMarkS_ac [(4, none)]
end Go.Proofs.Ytfdcdbkblkehcaa.Am
namespace Go.Proofs.Ytfdcdbkblkehcaa.Am
open Go
set_option linter.unusedVariables false
set_option maxRecDepth 100000
def laws_heldWriteS_b0 : AC :=
 (.seq (.seq (.region 0 [⟨some 6, .mv (.t 5), none⟩,
  ⟨some 7, .mv (.t 0), none⟩,
  ⟨some 8, .len false (.t 7), none⟩,
  ⟨some 9, .bin .lss (.t 6) (.t 8), none⟩])
 (.cond (.t 9) .skip (.exit 0)))
 (.seq (.block 1 (.seq (.seq (.region 0 [⟨some 12, .mv (.t 0), none⟩,
  ⟨some 13, .mv (.t 5), none⟩,
  ⟨some 14, .iaddr 2 (.t 12) (.t 13), none⟩,
  ⟨some 15, .faddr 0 0 (.t 14), none⟩,
  ⟨some 16, .load false 1 (.t 15), none⟩,
  ⟨some 17, .mv (.t 1), none⟩,
  ⟨some 18, .bin .neq (.t 16) (.t 17), none⟩])
 (.cond (.t 18) (.seq (.region 0 [⟨some 4, .mv (.c (.int .i64 (-1))), none⟩])
 .ret) .skip))
 (.seq (.region 0 [⟨some 19, .mv (.t 1), none⟩,
  ⟨some 20, .bin .add (.t 19) (.c (.int .i64 1)), none⟩,
  ⟨some 1, .mv (.t 20), none⟩])
 (.seq (.seq (.region 0 [⟨some 21, .mv (.t 0), none⟩,
  ⟨some 22, .mv (.t 5), none⟩,
  ⟨some 23, .iaddr 2 (.t 21) (.t 22), none⟩,
  ⟨some 24, .faddr 1 1 (.t 23), none⟩,
  ⟨some 25, .load false 1 (.t 24), none⟩,
  ⟨some 26, .mv (.t 1), none⟩,
  ⟨some 27, .bin .neq (.t 25) (.t 26), none⟩])
 (.cond (.t 27) (.seq (.region 0 [⟨some 4, .mv (.c (.int .i64 (-1))), none⟩])
 .ret) .skip))
 (.region 0 [⟨some 28, .mv (.t 1), none⟩,
  ⟨some 29, .bin .add (.t 28) (.c (.int .i64 1)), none⟩,
  ⟨some 1, .mv (.t 29), none⟩])))))
 (.region 0 [⟨some 10, .mv (.t 5), none⟩,
  ⟨some 11, .bin .add (.t 10) (.c (.int .i64 1)), none⟩,
  ⟨some 5, .mv (.t 11), none⟩])))
def laws_heldWriteS_r0 : AC :=
 (.seq (.region 0 [⟨some 30, .mv (.t 1), none⟩,
  ⟨some 4, .mv (.t 30), none⟩])
 .ret)
def laws_heldWriteS_ac : AC :=
 (.seq (.region 0 [⟨some 4, .mv (.c (.int .i64 0)), none⟩])
 (.seq (.seq (.region 0 [⟨some 5, .mv (.c (.int .i64 0)), none⟩])
 (.block 0 (.loop ⟨[0, 1, 5], [], []⟩ laws_heldWriteS_b0)))
 laws_heldWriteS_r0))
structure G_laws_heldWriteS (E : Env) : Prop where
  is : Is E 235 2 laws_heldWriteS_ac [(4, none)]
end Go.Proofs.Ytfdcdbkblkehcaa.Am
namespace Go.Proofs.Ytfdcdbkblkehcaa.Am
open Go
set_option linter.unusedVariables false
set_option maxRecDepth 100000
def laws_heldTransactionS_b0 : AC :=
 (.seq (.seq (.region 0 [⟨some 6, .mv (.t 5), none⟩,
  ⟨some 7, .mv (.t 0), none⟩,
  ⟨some 8, .len false (.t 7), none⟩,
  ⟨some 9, .bin .lss (.t 6) (.t 8), none⟩])
 (.cond (.t 9) .skip (.exit 0)))
 (.seq (.block 1 (.seq (.seq (.region 0 [⟨some 12, .mv (.t 0), none⟩,
  ⟨some 13, .mv (.t 5), none⟩,
  ⟨some 14, .iaddr 9 (.t 12) (.t 13), none⟩,
  ⟨some 15, .faddr 0 0 (.t 14), none⟩,
  ⟨some 16, .load false 1 (.t 15), none⟩,
  ⟨some 17, .mv (.t 1), none⟩,
  ⟨some 18, .bin .neq (.t 16) (.t 17), none⟩])
 (.cond (.t 18) (.seq (.region 0 [⟨some 4, .mv (.c (.int .i64 (-1))), none⟩])
 .ret) .skip))
 (.seq (.region 0 [⟨some 19, .mv (.t 1), none⟩,
  ⟨some 20, .bin .add (.t 19) (.c (.int .i64 1)), none⟩,
  ⟨some 1, .mv (.t 20), none⟩])
 (.seq (.seq (.region 0 [⟨some 21, .mv (.t 0), none⟩,
  ⟨some 22, .mv (.t 5), none⟩,
  ⟨some 23, .iaddr 9 (.t 21) (.t 22), none⟩,
  ⟨some 24, .faddr 1 1 (.t 23), none⟩,
  ⟨some 25, .load false 1 (.t 24), none⟩,
  ⟨some 26, .mv (.t 1), none⟩,
  ⟨some 27, .bin .neq (.t 25) (.t 26), none⟩])
 (.cond (.t 27) (.seq (.region 0 [⟨some 4, .mv (.c (.int .i64 (-1))), none⟩])
 .ret) .skip))
 (.seq (.region 0 [⟨some 28, .mv (.t 1), none⟩,
  ⟨some 29, .bin .add (.t 28) (.c (.int .i64 1)), none⟩,
  ⟨some 1, .mv (.t 29), none⟩])
 (.seq (.seq (.region 0 [⟨some 30, .mv (.t 0), none⟩,
  ⟨some 31, .mv (.t 5), none⟩,
  ⟨some 32, .iaddr 9 (.t 30) (.t 31), none⟩,
  ⟨some 33, .faddr 2 2 (.t 32), none⟩,
  ⟨some 34, .load false 1 (.t 33), none⟩,
  ⟨some 35, .mv (.t 1), none⟩,
  ⟨some 36, .bin .neq (.t 34) (.t 35), none⟩])
 (.cond (.t 36) (.seq (.region 0 [⟨some 4, .mv (.c (.int .i64 (-1))), none⟩])
 .ret) .skip))
 (.seq (.region 0 [⟨some 37, .mv (.t 1), none⟩,
  ⟨some 38, .bin .add (.t 37) (.c (.int .i64 1)), none⟩,
  ⟨some 1, .mv (.t 38), none⟩])
 (.seq (.seq (.region 0 [⟨some 39, .mv (.t 0), none⟩,
  ⟨some 40, .mv (.t 5), none⟩,
  ⟨some 41, .iaddr 9 (.t 39) (.t 40), none⟩,
  ⟨some 42, .faddr 3 3 (.t 41), none⟩,
  ⟨some 43, .load false 1 (.t 42), none⟩,
  ⟨some 44, .mv (.t 1), none⟩,
  ⟨some 45, .bin .neq (.t 43) (.t 44), none⟩])
 (.cond (.t 45) (.seq (.region 0 [⟨some 4, .mv (.c (.int .i64 (-1))), none⟩])
 .ret) .skip))
 (.seq (.region 0 [⟨some 46, .mv (.t 1), none⟩,
  ⟨some 47, .bin .add (.t 46) (.c (.int .i64 1)), none⟩,
  ⟨some 1, .mv (.t 47), none⟩])
 (.seq (.seq (.region 0 [⟨some 48, .mv (.t 0), none⟩,
  ⟨some 49, .mv (.t 5), none⟩,
  ⟨some 50, .iaddr 9 (.t 48) (.t 49), none⟩,
  ⟨some 51, .faddr 4 4 (.t 50), none⟩,
  ⟨some 52, .load false 1 (.t 51), none⟩,
  ⟨some 53, .mv (.t 1), none⟩,
  ⟨some 54, .bin .neq (.t 52) (.t 53), none⟩])
 (.cond (.t 54) (.seq (.region 0 [⟨some 4, .mv (.c (.int .i64 (-1))), none⟩])
 .ret) .skip))
 (.seq (.region 0 [⟨some 55, .mv (.t 1), none⟩,
  ⟨some 56, .bin .add (.t 55) (.c (.int .i64 1)), none⟩,
  ⟨some 1, .mv (.t 56), none⟩])
 (.seq (.seq (.region 0 [⟨some 57, .mv (.t 0), none⟩,
  ⟨some 58, .mv (.t 5), none⟩,
  ⟨some 59, .iaddr 9 (.t 57) (.t 58), none⟩,
  ⟨some 60, .faddr 5 5 (.t 59), none⟩,
  ⟨some 61, .load false 1 (.t 60), none⟩,
  ⟨some 62, .mv (.t 1), none⟩,
  ⟨some 63, .bin .neq (.t 61) (.t 62), none⟩])
 (.cond (.t 63) (.seq (.region 0 [⟨some 4, .mv (.c (.int .i64 (-1))), none⟩])
 .ret) .skip))
 (.seq (.region 0 [⟨some 64, .mv (.t 1), none⟩,
  ⟨some 65, .bin .add (.t 64) (.c (.int .i64 1)), none⟩,
  ⟨some 1, .mv (.t 65), none⟩])
 (.seq (.seq (.region 0 [⟨some 66, .mv (.t 0), none⟩,
  ⟨some 67, .mv (.t 5), none⟩,
  ⟨some 68, .iaddr 9 (.t 66) (.t 67), none⟩,
  ⟨some 69, .faddr 6 6 (.t 68), none⟩,
  ⟨some 70, .load false 1 (.t 69), none⟩,
  ⟨some 71, .mv (.t 1), none⟩,
  ⟨some 72, .bin .neq (.t 70) (.t 71), none⟩])
 (.cond (.t 72) (.seq (.region 0 [⟨some 4, .mv (.c (.int .i64 (-1))), none⟩])
 .ret) .skip))
 (.seq (.region 0 [⟨some 73, .mv (.t 1), none⟩,
  ⟨some 74, .bin .add (.t 73) (.c (.int .i64 1)), none⟩,
  ⟨some 1, .mv (.t 74), none⟩])
 (.seq (.region 0 [⟨some 75, .mv (.t 0), none⟩,
  ⟨some 76, .mv (.t 5), none⟩,
  ⟨some 77, .iaddr 9 (.t 75) (.t 76), none⟩,
  ⟨some 78, .faddr 7 7 (.t 77), none⟩,
  ⟨some 79, .load false 1 (.t 78), none⟩,
  ⟨some 80, .mv (.t 1), none⟩,
  ⟨some 81, .call false 92 [(.t 79), (.t 80)], none⟩,
  ⟨some 1, .mv (.t 81), none⟩])
 (.seq (.seq (.region 0 [⟨some 82, .mv (.t 1), none⟩,
  ⟨some 83, .bin .lss (.t 82) (.c (.int .i64 0)), none⟩])
 (.cond (.t 83) (.seq (.region 0 [⟨some 4, .mv (.c (.int .i64 (-1))), none⟩])
 .ret) .skip))
 (.seq (.region 0 [⟨some 84, .mv (.t 0), none⟩,
  ⟨some 85, .mv (.t 5), none⟩,
  ⟨some 86, .iaddr 9 (.t 84) (.t 85), none⟩,
  ⟨some 87, .faddr 8 8 (.t 86), none⟩,
  ⟨some 88, .load false 1 (.t 87), none⟩,
  ⟨some 89, .mv (.t 1), none⟩,
  ⟨some 90, .call false 235 [(.t 88), (.t 89)], none⟩,
  ⟨some 1, .mv (.t 90), none⟩])
 (.seq (.region 0 [⟨some 91, .mv (.t 1), none⟩,
  ⟨some 92, .bin .lss (.t 91) (.c (.int .i64 0)), none⟩])
 (.cond (.t 92) (.seq (.region 0 [⟨some 4, .mv (.c (.int .i64 (-1))), none⟩])
 .ret) .skip))))))))))))))))))))
 (.region 0 [⟨some 10, .mv (.t 5), none⟩,
  ⟨some 11, .bin .add (.t 10) (.c (.int .i64 1)), none⟩,
  ⟨some 5, .mv (.t 11), none⟩])))
def laws_heldTransactionS_r0 : AC :=
 (.seq (.region 0 [⟨some 93, .mv (.t 1), none⟩,
  ⟨some 4, .mv (.t 93), none⟩])
 .ret)
def laws_heldTransactionS_ac : AC :=
 (.seq (.region 0 [⟨some 4, .mv (.c (.int .i64 0)), none⟩])
 (.seq (.seq (.region 0 [⟨some 5, .mv (.c (.int .i64 0)), none⟩])
 (.block 0 (.loop ⟨[0, 1, 5], [], []⟩ laws_heldTransactionS_b0)))
 laws_heldTransactionS_r0))
noncomputable def laws_heldTransactionS_l0 (E : Env) (x0 : U) (x1 : U) (x5 : U) : Option U := loopK (roundOf E ⟨[0, 1, 5], [], []⟩ laws_heldTransactionS_b0 (blockK 0 (seqK (fun s => exec E laws_heldTransactionS_r0 s (finish [(4, none)])) (finish [(4, none)])))) ([.val x0, .val x1, .val x5], [])
theorem laws_heldTransactionS_l0_eq (E : Env) (x0 : U) (x1 : U) (x5 : U) : laws_heldTransactionS_l0 E x0 x1 x5 =
 (U.lenOf false x0).bind fun n1 => (U.bin .lss x5 (.int .i64 (n1 : Int))).bind fun t2 => U.asBool t2
 (U.asInt x5 fun n3 => U.elemAt 9 x0 n3 fun e4 => U.fieldAt 0 0 e4 fun f5 => U.asVar false 1 f5 fun e6 => (U.bin .neq e6 x1).bind fun t7 => U.asBool t7
 (some (.int .i64 (-1)))
 ((U.bin .add x1 (.int .i64 1)).bind fun t8 => U.asInt x5 fun n9 => U.elemAt 9 x0 n9 fun e10 => U.fieldAt 1 1 e10 fun f11 => U.asVar false 1 f11 fun e12 => (U.bin .neq e12 t8).bind fun t13 => U.asBool t13
 (some (.int .i64 (-1)))
 ((U.bin .add t8 (.int .i64 1)).bind fun t14 => U.asInt x5 fun n15 => U.elemAt 9 x0 n15 fun e16 => U.fieldAt 2 2 e16 fun f17 => U.asVar false 1 f17 fun e18 => (U.bin .neq e18 t14).bind fun t19 => U.asBool t19
 (some (.int .i64 (-1)))
 ((U.bin .add t14 (.int .i64 1)).bind fun t20 => U.asInt x5 fun n21 => U.elemAt 9 x0 n21 fun e22 => U.fieldAt 3 3 e22 fun f23 => U.asVar false 1 f23 fun e24 => (U.bin .neq e24 t20).bind fun t25 => U.asBool t25
 (some (.int .i64 (-1)))
 ((U.bin .add t20 (.int .i64 1)).bind fun t26 => U.asInt x5 fun n27 => U.elemAt 9 x0 n27 fun e28 => U.fieldAt 4 4 e28 fun f29 => U.asVar false 1 f29 fun e30 => (U.bin .neq e30 t26).bind fun t31 => U.asBool t31
 (some (.int .i64 (-1)))
 ((U.bin .add t26 (.int .i64 1)).bind fun t32 => U.asInt x5 fun n33 => U.elemAt 9 x0 n33 fun e34 => U.fieldAt 5 5 e34 fun f35 => U.asVar false 1 f35 fun e36 => (U.bin .neq e36 t32).bind fun t37 => U.asBool t37
 (some (.int .i64 (-1)))
 ((U.bin .add t32 (.int .i64 1)).bind fun t38 => U.asInt x5 fun n39 => U.elemAt 9 x0 n39 fun e40 => U.fieldAt 6 6 e40 fun f41 => U.asVar false 1 f41 fun e42 => (U.bin .neq e42 t38).bind fun t43 => U.asBool t43
 (some (.int .i64 (-1)))
 ((U.bin .add t38 (.int .i64 1)).bind fun t44 => U.asInt x5 fun n45 => U.elemAt 9 x0 n45 fun e46 => U.fieldAt 7 7 e46 fun f47 => U.asVar false 1 f47 fun e48 => (E 92 [e48, t44]).bind fun t49 => (U.bin .lss t49 (.int .i64 0)).bind fun t50 => U.asBool t50
 (some (.int .i64 (-1)))
 (U.asInt x5 fun n51 => U.elemAt 9 x0 n51 fun e52 => U.fieldAt 8 8 e52 fun f53 => U.asVar false 1 f53 fun e54 => (E 235 [e54, t49]).bind fun t55 => (U.bin .lss t55 (.int .i64 0)).bind fun t56 => U.asBool t56
 (some (.int .i64 (-1)))
 ((U.bin .add x5 (.int .i64 1)).bind fun t57 => laws_heldTransactionS_l0 E x0 t55 t57))))))))))
 (some x1) :=
 (loop_eq E _ _ _ _).trans (by kernel_rfl)
structure G_laws_heldTransactionS (E : Env) : Prop where
  is : Is E 322 2 laws_heldTransactionS_ac [(4, none)]
  c_laws_heldReadMarkS : G_laws_heldReadMarkS E
  c_laws_heldWriteS : G_laws_heldWriteS E
theorem laws_heldTransactionS_E {E : Env} (h : G_laws_heldTransactionS E) (a0 a1 : U) : E 322 [a0, a1] =
 laws_heldTransactionS_l0 E a0 a1 (.int .i64 0) := (h.is _ rfl).trans ((runQ_V rfl).trans (by kernel_rfl))
end Go.Proofs.Ytfdcdbkblkehcaa.Am
namespace Go.Proofs.Ytfdcdbkblkehcaa.Am
open Go
set_option linter.unusedVariables false
set_option maxRecDepth 100000
def laws_heldLockS_b0 : AC :=
 (.seq (.seq (.region 0 [⟨some 6, .mv (.t 5), none⟩,
  ⟨some 7, .mv (.t 0), none⟩,
  ⟨some 8, .len false (.t 7), none⟩,
  ⟨some 9, .bin .lss (.t 6) (.t 8), none⟩])
 (.cond (.t 9) .skip (.exit 0)))
 (.seq (.block 1 (.seq (.seq (.region 0 [⟨some 12, .mv (.t 0), none⟩,
  ⟨some 13, .mv (.t 5), none⟩,
  ⟨some 14, .iaddr 2 (.t 12) (.t 13), none⟩,
  ⟨some 15, .faddr 0 0 (.t 14), none⟩,
  ⟨some 16, .load false 1 (.t 15), none⟩,
  ⟨some 17, .mv (.t 1), none⟩,
  ⟨some 18, .bin .neq (.t 16) (.t 17), none⟩])
 (.cond (.t 18) (.seq (.region 0 [⟨some 4, .mv (.c (.int .i64 (-1))), none⟩])
 .ret) .skip))
 (.seq (.region 0 [⟨some 19, .mv (.t 1), none⟩,
  ⟨some 20, .bin .add (.t 19) (.c (.int .i64 1)), none⟩,
  ⟨some 1, .mv (.t 20), none⟩])
 (.seq (.seq (.region 0 [⟨some 21, .mv (.t 0), none⟩,
  ⟨some 22, .mv (.t 5), none⟩,
  ⟨some 23, .iaddr 2 (.t 21) (.t 22), none⟩,
  ⟨some 24, .faddr 1 1 (.t 23), none⟩,
  ⟨some 25, .load false 1 (.t 24), none⟩,
  ⟨some 26, .mv (.t 1), none⟩,
  ⟨some 27, .bin .neq (.t 25) (.t 26), none⟩])
 (.cond (.t 27) (.seq (.region 0 [⟨some 4, .mv (.c (.int .i64 (-1))), none⟩])
 .ret) .skip))
 (.region 0 [⟨some 28, .mv (.t 1), none⟩,
  ⟨some 29, .bin .add (.t 28) (.c (.int .i64 1)), none⟩,
  ⟨some 1, .mv (.t 29), none⟩])))))
 (.region 0 [⟨some 10, .mv (.t 5), none⟩,
  ⟨some 11, .bin .add (.t 10) (.c (.int .i64 1)), none⟩,
  ⟨some 5, .mv (.t 11), none⟩])))
def laws_heldLockS_r0 : AC :=
 (.seq (.region 0 [⟨some 30, .mv (.t 1), none⟩,
  ⟨some 4, .mv (.t 30), none⟩])
 .ret)
def laws_heldLockS_ac : AC :=
 (.seq (.region 0 [⟨some 4, .mv (.c (.int .i64 0)), none⟩])
 (.seq (.seq (.region 0 [⟨some 5, .mv (.c (.int .i64 0)), none⟩])
 (.block 0 (.loop ⟨[0, 1, 5], [], []⟩ laws_heldLockS_b0)))
 laws_heldLockS_r0))
noncomputable def laws_heldLockS_l0 (E : Env) (x0 : U) (x1 : U) (x5 : U) : Option U := loopK (roundOf E ⟨[0, 1, 5], [], []⟩ laws_heldLockS_b0 (blockK 0 (seqK (fun s => exec E laws_heldLockS_r0 s (finish [(4, none)])) (finish [(4, none)])))) ([.val x0, .val x1, .val x5], [])
theorem laws_heldLockS_l0_eq (E : Env) (x0 : U) (x1 : U) (x5 : U) : laws_heldLockS_l0 E x0 x1 x5 =
 (U.lenOf false x0).bind fun n1 => (U.bin .lss x5 (.int .i64 (n1 : Int))).bind fun t2 => U.asBool t2
 (U.asInt x5 fun n3 => U.elemAt 2 x0 n3 fun e4 => U.fieldAt 0 0 e4 fun f5 => U.asVar false 1 f5 fun e6 => (U.bin .neq e6 x1).bind fun t7 => U.asBool t7
 (some (.int .i64 (-1)))
 ((U.bin .add x1 (.int .i64 1)).bind fun t8 => U.asInt x5 fun n9 => U.elemAt 2 x0 n9 fun e10 => U.fieldAt 1 1 e10 fun f11 => U.asVar false 1 f11 fun e12 => (U.bin .neq e12 t8).bind fun t13 => U.asBool t13
 (some (.int .i64 (-1)))
 ((U.bin .add t8 (.int .i64 1)).bind fun t14 => (U.bin .add x5 (.int .i64 1)).bind fun t15 => laws_heldLockS_l0 E x0 t14 t15)))
 (some x1) :=
 (loop_eq E _ _ _ _).trans (by kernel_rfl)
structure G_laws_heldLockS (E : Env) : Prop where
  is : Is E 321 2 laws_heldLockS_ac [(4, none)]
theorem laws_heldLockS_E {E : Env} (h : G_laws_heldLockS E) (a0 a1 : U) : E 321 [a0, a1] =
 laws_heldLockS_l0 E a0 a1 (.int .i64 0) := (h.is _ rfl).trans ((runQ_V rfl).trans (by kernel_rfl))
end Go.Proofs.Ytfdcdbkblkehcaa.Am
namespace Go.Proofs.Ytfdcdbkblkehcaa.Am
open Go
set_option linter.unusedVariables false
set_option maxRecDepth 100000
def laws_heldWaitS_b0 : AC :=
 (.seq (.seq (.region 0 [⟨some 6, .mv (.t 5), none⟩,
  ⟨some 7, .mv (.t 0), none⟩,
  ⟨some 8, .len false (.t 7), none⟩,
  ⟨some 9, .bin .lss (.t 6) (.t 8), none⟩])
 (.cond (.t 9) .skip (.exit 0)))
 (.seq (.block 1 (.seq (.seq (.region 0 [⟨some 12, .mv (.t 0), none⟩,
  ⟨some 13, .mv (.t 5), none⟩,
  ⟨some 14, .iaddr 2 (.t 12) (.t 13), none⟩,
  ⟨some 15, .faddr 0 0 (.t 14), none⟩,
  ⟨some 16, .load false 1 (.t 15), none⟩,
  ⟨some 17, .mv (.t 1), none⟩,
  ⟨some 18, .bin .neq (.t 16) (.t 17), none⟩])
 (.cond (.t 18) (.seq (.region 0 [⟨some 4, .mv (.c (.int .i64 (-1))), none⟩])
 .ret) .skip))
 (.seq (.region 0 [⟨some 19, .mv (.t 1), none⟩,
  ⟨some 20, .bin .add (.t 19) (.c (.int .i64 1)), none⟩,
  ⟨some 1, .mv (.t 20), none⟩])
 (.seq (.seq (.region 0 [⟨some 21, .mv (.t 0), none⟩,
  ⟨some 22, .mv (.t 5), none⟩,
  ⟨some 23, .iaddr 2 (.t 21) (.t 22), none⟩,
  ⟨some 24, .faddr 1 1 (.t 23), none⟩,
  ⟨some 25, .load false 1 (.t 24), none⟩,
  ⟨some 26, .mv (.t 1), none⟩,
  ⟨some 27, .bin .neq (.t 25) (.t 26), none⟩])
 (.cond (.t 27) (.seq (.region 0 [⟨some 4, .mv (.c (.int .i64 (-1))), none⟩])
 .ret) .skip))
 (.region 0 [⟨some 28, .mv (.t 1), none⟩,
  ⟨some 29, .bin .add (.t 28) (.c (.int .i64 1)), none⟩,
  ⟨some 1, .mv (.t 29), none⟩])))))
 (.region 0 [⟨some 10, .mv (.t 5), none⟩,
  ⟨some 11, .bin .add (.t 10) (.c (.int .i64 1)), none⟩,
  ⟨some 5, .mv (.t 11), none⟩])))
def laws_heldWaitS_r0 : AC :=
 (.seq (.region 0 [⟨some 30, .mv (.t 1), none⟩,
  ⟨some 4, .mv (.t 30), none⟩])
 .ret)
def laws_heldWaitS_ac : AC :=
 (.seq (.region 0 [⟨some 4, .mv (.c (.int .i64 0)), none⟩])
 (.seq (.seq (.region 0 [⟨some 5, .mv (.c (.int .i64 0)), none⟩])
 (.block 0 (.loop ⟨[0, 1, 5], [], []⟩ laws_heldWaitS_b0)))
 laws_heldWaitS_r0))
noncomputable def laws_heldWaitS_l0 (E : Env) (x0 : U) (x1 : U) (x5 : U) : Option U := loopK (roundOf E ⟨[0, 1, 5], [], []⟩ laws_heldWaitS_b0 (blockK 0 (seqK (fun s => exec E laws_heldWaitS_r0 s (finish [(4, none)])) (finish [(4, none)])))) ([.val x0, .val x1, .val x5], [])
theorem laws_heldWaitS_l0_eq (E : Env) (x0 : U) (x1 : U) (x5 : U) : laws_heldWaitS_l0 E x0 x1 x5 =
 (U.lenOf false x0).bind fun n1 => (U.bin .lss x5 (.int .i64 (n1 : Int))).bind fun t2 => U.asBool t2
 (U.asInt x5 fun n3 => U.elemAt 2 x0 n3 fun e4 => U.fieldAt 0 0 e4 fun f5 => U.asVar false 1 f5 fun e6 => (U.bin .neq e6 x1).bind fun t7 => U.asBool t7
 (some (.int .i64 (-1)))
 ((U.bin .add x1 (.int .i64 1)).bind fun t8 => U.asInt x5 fun n9 => U.elemAt 2 x0 n9 fun e10 => U.fieldAt 1 1 e10 fun f11 => U.asVar false 1 f11 fun e12 => (U.bin .neq e12 t8).bind fun t13 => U.asBool t13
 (some (.int .i64 (-1)))
 ((U.bin .add t8 (.int .i64 1)).bind fun t14 => (U.bin .add x5 (.int .i64 1)).bind fun t15 => laws_heldWaitS_l0 E x0 t14 t15)))
 (some x1) :=
 (loop_eq E _ _ _ _).trans (by kernel_rfl)
structure G_laws_heldWaitS (E : Env) : Prop where
  is : Is E 320 2 laws_heldWaitS_ac [(4, none)]
theorem laws_heldWaitS_E {E : Env} (h : G_laws_heldWaitS E) (a0 a1 : U) : E 320 [a0, a1] =
 laws_heldWaitS_l0 E a0 a1 (.int .i64 0) := (h.is _ rfl).trans ((runQ_V rfl).trans (by kernel_rfl))
end Go.Proofs.Ytfdcdbkblkehcaa.Am
namespace Go.Proofs.Ytfdcdbkblkehcaa.Am
open Go
set_option linter.unusedVariables false
set_option maxRecDepth 100000
def laws_heldEngine_ac : AC :=
 (.seq (.region 0 [⟨some 2, .box false 2 (.t 0), none⟩,
  ⟨some 4, .mv (.c (.int .i64 0)), none⟩])
 (.seq (.region 0 [⟨some 5, .faddr 1 1 (.t 2), none⟩,
  ⟨some 6, .load true 1 (.t 5), none⟩,
  ⟨some 7, .mv (.t 1), none⟩,
  ⟨some 8, .call false 206 [(.t 6), (.t 7)], none⟩,
  ⟨some 1, .mv (.t 8), none⟩])
 (.seq (.seq (.region 0 [⟨some 9, .mv (.t 1), none⟩,
  ⟨some 10, .bin .lss (.t 9) (.c (.int .i64 0)), none⟩])
 (.cond (.t 10) (.seq (.region 0 [⟨some 4, .mv (.c (.int .i64 (-1))), none⟩])
 .ret) .skip))
 (.seq (.region 0 [⟨some 11, .faddr 2 2 (.t 2), none⟩,
  ⟨some 12, .load false 1 (.t 11), none⟩,
  ⟨some 13, .mv (.t 1), none⟩,
  ⟨some 14, .call false 322 [(.t 12), (.t 13)], none⟩,
  ⟨some 1, .mv (.t 14), none⟩])
 (.seq (.seq (.region 0 [⟨some 15, .mv (.t 1), none⟩,
  ⟨some 16, .bin .lss (.t 15) (.c (.int .i64 0)), none⟩])
 (.cond (.t 16) (.seq (.region 0 [⟨some 4, .mv (.c (.int .i64 (-1))), none⟩])
 .ret) .skip))
 (.seq (.region 0 [⟨some 17, .faddr 3 3 (.t 2), none⟩,
  ⟨some 18, .load false 1 (.t 17), none⟩,
  ⟨some 19, .mv (.t 1), none⟩,
  ⟨some 20, .call false 321 [(.t 18), (.t 19)], none⟩,
  ⟨some 1, .mv (.t 20), none⟩])
 (.seq (.seq (.region 0 [⟨some 21, .mv (.t 1), none⟩,
  ⟨some 22, .bin .lss (.t 21) (.c (.int .i64 0)), none⟩])
 (.cond (.t 22) (.seq (.region 0 [⟨some 4, .mv (.c (.int .i64 (-1))), none⟩])
 .ret) .skip))
 (.seq (.region 0 [⟨some 23, .faddr 4 4 (.t 2), none⟩,
  ⟨some 24, .load false 1 (.t 23), none⟩,
  ⟨some 25, .mv (.t 1), none⟩,
  ⟨some 26, .call false 320 [(.t 24), (.t 25)], none⟩,
  ⟨some 1, .mv (.t 26), none⟩])
 (.seq (.seq (.region 0 [⟨some 27, .mv (.t 1), none⟩,
  ⟨some 28, .bin .lss (.t 27) (.c (.int .i64 0)), none⟩])
 (.cond (.t 28) (.seq (.region 0 [⟨some 4, .mv (.c (.int .i64 (-1))), none⟩])
 .ret) .skip))
 (.seq (.region 0 [⟨some 29, .mv (.t 1), none⟩,
  ⟨some 4, .mv (.t 29), none⟩])
 .ret))))))))))
structure G_laws_heldEngine (E : Env) : Prop where
  is : Is E 319 2 laws_heldEngine_ac [(4, none)]
  c_laws_heldStore : G_laws_heldStore E
  c_laws_heldTransactionS : G_laws_heldTransactionS E
  c_laws_heldLockS : G_laws_heldLockS E
  c_laws_heldWaitS : G_laws_heldWaitS E
theorem laws_heldEngine_E {E : Env} (h : G_laws_heldEngine E) (a0 a1 : U) : E 319 [a0, a1] =
 U.noTup a0 fun x1 => U.asAgg x1 fun us2 => if 1 = sizes (us2.take 1) then (us2[1]?).bind fun e3 => U.asVar true 1 e3 fun e4 => (E 206 [e4, a1]).bind fun t5 => (U.bin .lss t5 (.int .i64 0)).bind fun t6 => U.asBool t6
 (some (.int .i64 (-1)))
 (U.asAgg x1 fun us7 => if 2 = sizes (us7.take 2) then (us7[2]?).bind fun e8 => U.asVar false 1 e8 fun e9 => (E 322 [e9, t5]).bind fun t10 => (U.bin .lss t10 (.int .i64 0)).bind fun t11 => U.asBool t11
 (some (.int .i64 (-1)))
 (U.asAgg x1 fun us12 => if 3 = sizes (us12.take 3) then (us12[3]?).bind fun e13 => U.asVar false 1 e13 fun e14 => (E 321 [e14, t10]).bind fun t15 => (U.bin .lss t15 (.int .i64 0)).bind fun t16 => U.asBool t16
 (some (.int .i64 (-1)))
 (U.asAgg x1 fun us17 => if 4 = sizes (us17.take 4) then (us17[4]?).bind fun e18 => U.asVar false 1 e18 fun e19 => (E 320 [e19, t15]).bind fun t20 => (U.bin .lss t20 (.int .i64 0)).bind fun t21 => U.asBool t21
 (some (.int .i64 (-1)))
 (some t20) else none) else none) else none) else none := (h.is _ rfl).trans ((runQ_V rfl).trans (by kernel_rfl))
end Go.Proofs.Ytfdcdbkblkehcaa.Am
namespace Go.Proofs.Ytfdcdbkblkehcaa.Am
open Go
set_option linter.unusedVariables false
set_option maxRecDepth 100000
def laws_heldNode_ac : AC :=
 (.seq (.region 0 [⟨some 2, .box false 2 (.t 0), none⟩,
  ⟨some 4, .mv (.c (.int .i64 0)), none⟩])
 (.seq (.region 0 [⟨some 5, .faddr 0 0 (.t 2), none⟩,
  ⟨some 6, .load true 6 (.t 5), none⟩,
  ⟨some 7, .mv (.t 1), none⟩,
  ⟨some 8, .call false 319 [(.t 6), (.t 7)], none⟩,
  ⟨some 1, .mv (.t 8), none⟩])
 (.seq (.seq (.region 0 [⟨some 9, .mv (.t 1), none⟩,
  ⟨some 10, .bin .lss (.t 9) (.c (.int .i64 0)), none⟩])
 (.cond (.t 10) (.seq (.region 0 [⟨some 4, .mv (.c (.int .i64 (-1))), none⟩])
 .ret) .skip))
 (.seq (.region 0 [⟨some 11, .mv (.t 1), none⟩,
  ⟨some 4, .mv (.t 11), none⟩])
 .ret))))
structure G_laws_heldNode (E : Env) : Prop where
  is : Is E 307 2 laws_heldNode_ac [(4, none)]
  c_laws_heldEngine : G_laws_heldEngine E
theorem laws_heldNode_E {E : Env} (h : G_laws_heldNode E) (a0 a1 : U) : E 307 [a0, a1] =
 U.noTup a0 fun x1 => U.asAgg x1 fun us2 => if 0 = sizes (us2.take 0) then (us2[0]?).bind fun e3 => U.asVar true 6 e3 fun e4 => (E 319 [e4, a1]).bind fun t5 => (U.bin .lss t5 (.int .i64 0)).bind fun t6 => U.asBool t6
 (some (.int .i64 (-1)))
 (some t5) else none := (h.is _ rfl).trans ((runQ_V rfl).trans (by kernel_rfl))
end Go.Proofs.Ytfdcdbkblkehcaa.Am
namespace Go.Proofs.Ytfdcdbkblkehcaa.Am
open Go
set_option linter.unusedVariables false
set_option maxRecDepth 100000
def impl_NewStore_F_b0 : AC :=
 (.seq (.region 0 [⟨some 4, .bin .lss (.t 3) (.c (.int .i64 6)), none⟩])
 (.seq (.cond (.t 4) .skip (.exit 0))
 (.seq (.block 1 (.region 0 [⟨some 5, .faddr 0 0 (.t 1), none⟩,
  ⟨some 6, .loadO (.sl 1) (.t 5), none⟩,
  ⟨some 7, .build [(.int .i64 0), (.int .i64 0), (.int .i64 0), (.int .i64 0), (.int .i64 0)] [(1, (.c (.int .i64 (-1)))), (4, (.c (.int .i64 1000)))], none⟩,
  ⟨some 8, .bslice 2 8 5 1 (.agg [(.int .i64 0), (.int .i64 0), (.int .i64 0), (.int .i64 0), (.int .i64 0)]) [(0, (.t 7))], none⟩,
  ⟨some 9, .bslice 2 9 1 1 (.nsl 5) [(0, (.t 8))], none⟩,
  ⟨some 10, .append true 10 1 24 (.t 6) (.t 9), none⟩,
  ⟨some 11, .faddr 0 0 (.t 1), none⟩,
  ⟨none, .storeM 3000 1 (.t 11) (.t 10), none⟩]))
 (.region 0 [⟨some 12, .bin .add (.t 3) (.c (.int .i64 1)), none⟩,
  ⟨some 3, .mv (.t 12), none⟩]))))
def impl_NewStore_F_r0 : AC :=
 (.seq (.region 0 [⟨some 13, .loadO (.agg [(.sl 1)]) (.t 1), none⟩,
  ⟨none, .storeM 3001 1 (.t 0) (.t 13), none⟩])
 .ret)
def impl_NewStore_F_ac : AC :=
 (.seq (.region 0 [⟨some 0, .alloc 0 (.agg [(.nsl 1)]), none⟩])
 (.seq (.region 0 [⟨some 2, .build [(.nsl 1)] [], none⟩,
  ⟨some 1, .alloc 1 (.agg [(.nsl 1)]), none⟩,
  ⟨none, .store 1 (.t 1) (.t 2), none⟩])
 (.seq (.seq (.region 0 [⟨some 3, .mv (.c (.int .i64 0)), none⟩])
 (.block 0 (.loopU 7 impl_NewStore_F_b0)))
 impl_NewStore_F_r0)))
structure G_impl_NewStore_F (E : Env) : Prop where
  is : Is E 100314 0 impl_NewStore_F_ac [(0, some (true, 1))]
theorem impl_NewStore_F_E {E : Env} (h : G_impl_NewStore_F E) : E 100314 [] =
 if 1 = 1 ∧ ([(.sl 5 [(.agg [(.int .i64 0), (.int .i64 (-1)), (.int .i64 0), (.int .i64 0), (.int .i64 1000)])])] : List U).length * 24 ≤ 140737488355328 then if ((([(.sl 5 [(.agg [(.int .i64 0), (.int .i64 (-1)), (.int .i64 0), (.int .i64 0), (.int .i64 1000)])])] : List U)).length + ([(.sl 5 [(.agg [(.int .i64 0), (.int .i64 (-1)), (.int .i64 0), (.int .i64 0), (.int .i64 1000)])])] : List U).length) * 24 ≤ 140737488355328 then if (((([(.sl 5 [(.agg [(.int .i64 0), (.int .i64 (-1)), (.int .i64 0), (.int .i64 0), (.int .i64 1000)])])] : List U) ++ ([(.sl 5 [(.agg [(.int .i64 0), (.int .i64 (-1)), (.int .i64 0), (.int .i64 0), (.int .i64 1000)])])] : List U))).length + ([(.sl 5 [(.agg [(.int .i64 0), (.int .i64 (-1)), (.int .i64 0), (.int .i64 0), (.int .i64 1000)])])] : List U).length) * 24 ≤ 140737488355328 then if ((((([(.sl 5 [(.agg [(.int .i64 0), (.int .i64 (-1)), (.int .i64 0), (.int .i64 0), (.int .i64 1000)])])] : List U) ++ ([(.sl 5 [(.agg [(.int .i64 0), (.int .i64 (-1)), (.int .i64 0), (.int .i64 0), (.int .i64 1000)])])] : List U)) ++ ([(.sl 5 [(.agg [(.int .i64 0), (.int .i64 (-1)), (.int .i64 0), (.int .i64 0), (.int .i64 1000)])])] : List U))).length + ([(.sl 5 [(.agg [(.int .i64 0), (.int .i64 (-1)), (.int .i64 0), (.int .i64 0), (.int .i64 1000)])])] : List U).length) * 24 ≤ 140737488355328 then if (((((([(.sl 5 [(.agg [(.int .i64 0), (.int .i64 (-1)), (.int .i64 0), (.int .i64 0), (.int .i64 1000)])])] : List U) ++ ([(.sl 5 [(.agg [(.int .i64 0), (.int .i64 (-1)), (.int .i64 0), (.int .i64 0), (.int .i64 1000)])])] : List U)) ++ ([(.sl 5 [(.agg [(.int .i64 0), (.int .i64 (-1)), (.int .i64 0), (.int .i64 0), (.int .i64 1000)])])] : List U)) ++ ([(.sl 5 [(.agg [(.int .i64 0), (.int .i64 (-1)), (.int .i64 0), (.int .i64 0), (.int .i64 1000)])])] : List U))).length + ([(.sl 5 [(.agg [(.int .i64 0), (.int .i64 (-1)), (.int .i64 0), (.int .i64 0), (.int .i64 1000)])])] : List U).length) * 24 ≤ 140737488355328 then if ((((((([(.sl 5 [(.agg [(.int .i64 0), (.int .i64 (-1)), (.int .i64 0), (.int .i64 0), (.int .i64 1000)])])] : List U) ++ ([(.sl 5 [(.agg [(.int .i64 0), (.int .i64 (-1)), (.int .i64 0), (.int .i64 0), (.int .i64 1000)])])] : List U)) ++ ([(.sl 5 [(.agg [(.int .i64 0), (.int .i64 (-1)), (.int .i64 0), (.int .i64 0), (.int .i64 1000)])])] : List U)) ++ ([(.sl 5 [(.agg [(.int .i64 0), (.int .i64 (-1)), (.int .i64 0), (.int .i64 0), (.int .i64 1000)])])] : List U)) ++ ([(.sl 5 [(.agg [(.int .i64 0), (.int .i64 (-1)), (.int .i64 0), (.int .i64 0), (.int .i64 1000)])])] : List U))).length + ([(.sl 5 [(.agg [(.int .i64 0), (.int .i64 (-1)), (.int .i64 0), (.int .i64 0), (.int .i64 1000)])])] : List U).length) * 24 ≤ 140737488355328 then some (.agg [(.sl 1 (((((([(.sl 5 [(.agg [(.int .i64 0), (.int .i64 (-1)), (.int .i64 0), (.int .i64 0), (.int .i64 1000)])])] : List U) ++ ([(.sl 5 [(.agg [(.int .i64 0), (.int .i64 (-1)), (.int .i64 0), (.int .i64 0), (.int .i64 1000)])])] : List U)) ++ ([(.sl 5 [(.agg [(.int .i64 0), (.int .i64 (-1)), (.int .i64 0), (.int .i64 0), (.int .i64 1000)])])] : List U)) ++ ([(.sl 5 [(.agg [(.int .i64 0), (.int .i64 (-1)), (.int .i64 0), (.int .i64 0), (.int .i64 1000)])])] : List U)) ++ ([(.sl 5 [(.agg [(.int .i64 0), (.int .i64 (-1)), (.int .i64 0), (.int .i64 0), (.int .i64 1000)])])] : List U)) ++ ([(.sl 5 [(.agg [(.int .i64 0), (.int .i64 (-1)), (.int .i64 0), (.int .i64 0), (.int .i64 1000)])])] : List U)))]) else none else none else none else none else none else none := (h.is _ rfl).trans ((runQ_F rfl).trans (by kernel_rfl))
end Go.Proofs.Ytfdcdbkblkehcaa.Am
namespace Go.Proofs.Ytfdcdbkblkehcaa.Am
open Go
set_option linter.unusedVariables false
set_option maxRecDepth 100000
def impl_NewEngine_F_ac : AC :=
 (.seq (.region 0 [⟨some 2, .alloc 2 (.agg [(.bool false), (.agg [(.nsl 1)]), (.nsl 9), (.nsl 2), (.nsl 2), (.int .i64 0)]), none⟩])
 (.seq (.region 0 [⟨some 3, .mv (.t 0), none⟩,
  ⟨some 4, .callF 4 false [(.agg [(.sl 1)])] 314 [], none⟩,
  ⟨some 5, .build [(.bool false), (.agg [(.nsl 1)]), (.nsl 9), (.nsl 2), (.nsl 2), (.int .i64 0)] [(0, (.t 3)), (1, (.t 4))], none⟩,
  ⟨none, .storeM 3000 6 (.t 2) (.t 5), none⟩])
 .ret))
structure G_impl_NewEngine_F (E : Env) : Prop where
  is : Is E 100313 1 impl_NewEngine_F_ac [(2, some (true, 6))]
  c_impl_NewStore_F : G_impl_NewStore_F E
theorem impl_NewEngine_F_E {E : Env} (h : G_impl_NewEngine_F E) (a0 : U) : E 100313 [a0] =
 (E 100314 []).bind fun t1 => U.noTup t1 fun x2 => U.asAgg x2 fun us3 => (match us3 with
 | u4 :: us5 => (U.asSlK 1 u4 fun us6 => (match us5 with
 | [] => (if partable (.val a0) = true ∧ a0.size = 1 then U.noTup a0 fun x7 => if (.agg [.val x7, .agg [.own (.sl 1 us6)], .val (.nsl 9), .val (.nsl 2), .val (.nsl 2), .val (.int .i64 0)] : D).size = 6 then if (.agg [.val x7, .agg [.own (.sl 1 us6)], .val (.nsl 9), .val (.nsl 2), .val (.nsl 2), .val (.int .i64 0)] : D).size = (.agg [.val x7, .agg [.own (.sl 1 us6)], .val (.nsl 9), .val (.nsl 2), .val (.nsl 2), .val (.int .i64 0)] : D).size then if (x7 : U).flat = true then U.asVar true 6 (.agg [x7, (.agg [(.sl 1 us6)]), (.nsl 9), (.nsl 2), (.nsl 2), (.int .i64 0)]) fun e8 => some (U.nilOwn e8) else none else none else none else none)
 | _ => none))
 | [] => none) := (h.is _ rfl).trans ((runQ_F rfl).trans (by kernel_rfl))
end Go.Proofs.Ytfdcdbkblkehcaa.Am
namespace Go.Proofs.Ytfdcdbkblkehcaa.Am
open Go
set_option linter.unusedVariables false
set_option maxRecDepth 100000
def impl_NewNode_F_ac : AC :=
 (.seq (.region 0 [⟨some 0, .alloc 0 (.agg [(.agg [(.bool false), (.agg [(.nsl 1)]), (.nsl 9), (.nsl 2), (.nsl 2), (.int .i64 0)]), (.str ⟨#[]⟩)]), none⟩])
 (.seq (.region 0 [⟨some 1, .callF 1 false [(.agg [.bool, (.agg [(.sl 1)]), (.sl 9), (.sl 2), (.sl 2), .int])] 313 [(.c (.bool true))], none⟩,
  ⟨some 2, .build [(.agg [(.bool false), (.agg [(.nsl 1)]), (.nsl 9), (.nsl 2), (.nsl 2), (.int .i64 0)]), (.str ⟨#[]⟩)] [(0, (.t 1))], none⟩,
  ⟨none, .storeM 3000 7 (.t 0) (.t 2), none⟩])
 .ret))
structure G_impl_NewNode_F (E : Env) : Prop where
  is : Is E 100308 0 impl_NewNode_F_ac [(0, some (true, 7))]
  c_impl_NewEngine_F : G_impl_NewEngine_F E
theorem impl_NewNode_F_E {E : Env} (h : G_impl_NewNode_F E) : E 100308 [] =
 (E 100313 [(.bool true)]).bind fun t1 => U.noTup t1 fun x2 => U.asAgg x2 fun us3 => (match us3 with
 | u4 :: us5 => (U.asB u4 fun b6 => (match us5 with
 | u7 :: us8 => (U.asAgg u7 fun us9 => (match us9 with
 | u10 :: us11 => (U.asSlK 1 u10 fun us12 => (match us11 with
 | [] => ((match us8 with
 | u13 :: us14 => (U.asSlK 9 u13 fun us15 => (match us14 with
 | u16 :: us17 => (U.asSlK 2 u16 fun us18 => (match us17 with
 | u19 :: us20 => (U.asSlK 2 u19 fun us21 => (match us20 with
 | u22 :: us23 => (U.asInt u22 fun n24 => (match us23 with
 | [] => (some (.agg [(.agg [(.bool b6), (.agg [(.sl 1 us12)]), (.sl 9 us15), (.sl 2 us18), (.sl 2 us21), (.int .i64 n24)]), (.str ⟨#[]⟩)]))
 | _ => none))
 | [] => none))
 | [] => none))
 | [] => none))
 | [] => none))
 | _ => none))
 | [] => none))
 | [] => none))
 | [] => none) := (h.is _ rfl).trans ((runQ_F rfl).trans (by kernel_rfl))
end Go.Proofs.Ytfdcdbkblkehcaa.Am
namespace Go.Proofs.Ytfdcdbkblkehcaa.Am
open Go
set_option linter.unusedVariables false
set_option maxRecDepth 100000
def laws_markReadMarkS_M_b0 : AC :=
 (.seq (.seq (.region 0 [⟨some 6, .mv (.t 5), none⟩,
  ⟨some 7, .mv (.t 0), none⟩,
  ⟨some 8, .len false (.t 7), none⟩,
  ⟨some 9, .bin .lss (.t 6) (.t 8), none⟩])
 (.cond (.t 9) .skip (.exit 0)))
 (.seq (.block 1 (.seq (.region 0 [⟨some 12, .mv (.t 0), none⟩,
  ⟨some 13, .mv (.t 5), none⟩,
  ⟨some 14, .mv (.t 1), none⟩,
  ⟨some 15, .iaddr 2 (.t 12) (.t 13), none⟩,
  ⟨some 16, .faddr 0 0 (.t 15), none⟩,
  ⟨none, .store 1 (.t 16) (.t 14), none⟩])
 (.seq (.region 0 [⟨some 17, .mv (.t 1), none⟩,
  ⟨some 18, .bin .add (.t 17) (.c (.int .i64 1)), none⟩,
  ⟨some 1, .mv (.t 18), none⟩])
 (.seq (.region 0 [⟨some 19, .mv (.t 0), none⟩,
  ⟨some 20, .mv (.t 5), none⟩,
  ⟨some 21, .mv (.t 1), none⟩,
  ⟨some 22, .iaddr 2 (.t 19) (.t 20), none⟩,
  ⟨some 23, .faddr 1 1 (.t 22), none⟩,
  ⟨none, .store 1 (.t 23) (.t 21), none⟩])
 (.region 0 [⟨some 24, .mv (.t 1), none⟩,
  ⟨some 25, .bin .add (.t 24) (.c (.int .i64 1)), none⟩,
  ⟨some 1, .mv (.t 25), none⟩])))))
 (.region 0 [⟨some 10, .mv (.t 5), none⟩,
  ⟨some 11, .bin .add (.t 10) (.c (.int .i64 1)), none⟩,
  ⟨some 5, .mv (.t 11), none⟩])))
def laws_markReadMarkS_M_r0 : AC :=
 (.seq (.region 0 [⟨some 26, .mv (.t 1), none⟩,
  ⟨some 4, .mv (.t 26), none⟩])
 .ret)
def laws_markReadMarkS_M_ac : AC :=
 (.seq (.region 0 [⟨some 4, .mv (.c (.int .i64 0)), none⟩])
 (.seq (.seq (.region 0 [⟨some 5, .mv (.c (.int .i64 0)), none⟩])
 (.block 0 (.loop ⟨[0, 1, 5], [], [(5000, true)]⟩ laws_markReadMarkS_M_b0)))
 laws_markReadMarkS_M_r0))
structure G_laws_markReadMarkS_M (E : Env) : Prop where
  is : Is E 200095 2 laws_markReadMarkS_M_ac [(4, none)]
end Go.Proofs.Ytfdcdbkblkehcaa.Am
namespace Go.Proofs.Ytfdcdbkblkehcaa.Am
open Go
set_option linter.unusedVariables false
set_option maxRecDepth 100000
def laws_markWriteS_M_b0 : AC :=
 (.seq (.seq (.region 0 [⟨some 6, .mv (.t 5), none⟩,
  ⟨some 7, .mv (.t 0), none⟩,
  ⟨some 8, .len false (.t 7), none⟩,
  ⟨some 9, .bin .lss (.t 6) (.t 8), none⟩])
 (.cond (.t 9) .skip (.exit 0)))
 (.seq (.block 1 (.seq (.region 0 [⟨some 12, .mv (.t 0), none⟩,
  ⟨some 13, .mv (.t 5), none⟩,
  ⟨some 14, .mv (.t 1), none⟩,
  ⟨some 15, .iaddr 2 (.t 12) (.t 13), none⟩,
  ⟨some 16, .faddr 0 0 (.t 15), none⟩,
  ⟨none, .store 1 (.t 16) (.t 14), none⟩])
 (.seq (.region 0 [⟨some 17, .mv (.t 1), none⟩,
  ⟨some 18, .bin .add (.t 17) (.c (.int .i64 1)), none⟩,
  ⟨some 1, .mv (.t 18), none⟩])
 (.seq (.region 0 [⟨some 19, .mv (.t 0), none⟩,
  ⟨some 20, .mv (.t 5), none⟩,
  ⟨some 21, .mv (.t 1), none⟩,
  ⟨some 22, .iaddr 2 (.t 19) (.t 20), none⟩,
  ⟨some 23, .faddr 1 1 (.t 22), none⟩,
  ⟨none, .store 1 (.t 23) (.t 21), none⟩])
 (.region 0 [⟨some 24, .mv (.t 1), none⟩,
  ⟨some 25, .bin .add (.t 24) (.c (.int .i64 1)), none⟩,
  ⟨some 1, .mv (.t 25), none⟩])))))
 (.region 0 [⟨some 10, .mv (.t 5), none⟩,
  ⟨some 11, .bin .add (.t 10) (.c (.int .i64 1)), none⟩,
  ⟨some 5, .mv (.t 11), none⟩])))
def laws_markWriteS_M_r0 : AC :=
 (.seq (.region 0 [⟨some 26, .mv (.t 1), none⟩,
  ⟨some 4, .mv (.t 26), none⟩])
 .ret)
def laws_markWriteS_M_ac : AC :=
 (.seq (.region 0 [⟨some 4, .mv (.c (.int .i64 0)), none⟩])
 (.seq (.seq (.region 0 [⟨some 5, .mv (.c (.int .i64 0)), none⟩])
 (.block 0 (.loop ⟨[0, 1, 5], [], [(5000, true)]⟩ laws_markWriteS_M_b0)))
 laws_markWriteS_M_r0))
structure G_laws_markWriteS_M (E : Env) : Prop where
  is : Is E 200232 2 laws_markWriteS_M_ac [(4, none)]
end Go.Proofs.Ytfdcdbkblkehcaa.Am
namespace Go.Proofs.Ytfdcdbkblkehcaa.Am
open Go
set_option linter.unusedVariables false
set_option maxRecDepth 100000
def laws_markTransactionS_M_b0 : AC :=
 (.seq (.seq (.region 0 [⟨some 6, .mv (.t 5), none⟩,
  ⟨some 7, .mv (.t 0), none⟩,
  ⟨some 8, .len false (.t 7), none⟩,
  ⟨some 9, .bin .lss (.t 6) (.t 8), none⟩])
 (.cond (.t 9) .skip (.exit 0)))
 (.seq (.block 1 (.seq (.region 0 [⟨some 12, .mv (.t 0), none⟩,
  ⟨some 13, .mv (.t 5), none⟩,
  ⟨some 14, .mv (.t 1), none⟩,
  ⟨some 15, .iaddr 9 (.t 12) (.t 13), none⟩,
  ⟨some 16, .faddr 0 0 (.t 15), none⟩,
  ⟨none, .store 1 (.t 16) (.t 14), none⟩])
 (.seq (.region 0 [⟨some 17, .mv (.t 1), none⟩,
  ⟨some 18, .bin .add (.t 17) (.c (.int .i64 1)), none⟩,
  ⟨some 1, .mv (.t 18), none⟩])
 (.seq (.region 0 [⟨some 19, .mv (.t 0), none⟩,
  ⟨some 20, .mv (.t 5), none⟩,
  ⟨some 21, .mv (.t 1), none⟩,
  ⟨some 22, .iaddr 9 (.t 19) (.t 20), none⟩,
  ⟨some 23, .faddr 1 1 (.t 22), none⟩,
  ⟨none, .store 1 (.t 23) (.t 21), none⟩])
 (.seq (.region 0 [⟨some 24, .mv (.t 1), none⟩,
  ⟨some 25, .bin .add (.t 24) (.c (.int .i64 1)), none⟩,
  ⟨some 1, .mv (.t 25), none⟩])
 (.seq (.region 0 [⟨some 26, .mv (.t 0), none⟩,
  ⟨some 27, .mv (.t 5), none⟩,
  ⟨some 28, .mv (.t 1), none⟩,
  ⟨some 29, .iaddr 9 (.t 26) (.t 27), none⟩,
  ⟨some 30, .faddr 2 2 (.t 29), none⟩,
  ⟨none, .store 1 (.t 30) (.t 28), none⟩])
 (.seq (.region 0 [⟨some 31, .mv (.t 1), none⟩,
  ⟨some 32, .bin .add (.t 31) (.c (.int .i64 1)), none⟩,
  ⟨some 1, .mv (.t 32), none⟩])
 (.seq (.region 0 [⟨some 33, .mv (.t 0), none⟩,
  ⟨some 34, .mv (.t 5), none⟩,
  ⟨some 35, .mv (.t 1), none⟩,
  ⟨some 36, .iaddr 9 (.t 33) (.t 34), none⟩,
  ⟨some 37, .faddr 3 3 (.t 36), none⟩,
  ⟨none, .store 1 (.t 37) (.t 35), none⟩])
 (.seq (.region 0 [⟨some 38, .mv (.t 1), none⟩,
  ⟨some 39, .bin .add (.t 38) (.c (.int .i64 1)), none⟩,
  ⟨some 1, .mv (.t 39), none⟩])
 (.seq (.region 0 [⟨some 40, .mv (.t 0), none⟩,
  ⟨some 41, .mv (.t 5), none⟩,
  ⟨some 42, .mv (.t 1), none⟩,
  ⟨some 43, .iaddr 9 (.t 40) (.t 41), none⟩,
  ⟨some 44, .faddr 4 4 (.t 43), none⟩,
  ⟨none, .store 1 (.t 44) (.t 42), none⟩])
 (.seq (.region 0 [⟨some 45, .mv (.t 1), none⟩,
  ⟨some 46, .bin .add (.t 45) (.c (.int .i64 1)), none⟩,
  ⟨some 1, .mv (.t 46), none⟩])
 (.seq (.region 0 [⟨some 47, .mv (.t 0), none⟩,
  ⟨some 48, .mv (.t 5), none⟩,
  ⟨some 49, .mv (.t 1), none⟩,
  ⟨some 50, .iaddr 9 (.t 47) (.t 48), none⟩,
  ⟨some 51, .faddr 5 5 (.t 50), none⟩,
  ⟨none, .store 1 (.t 51) (.t 49), none⟩])
 (.seq (.region 0 [⟨some 52, .mv (.t 1), none⟩,
  ⟨some 53, .bin .add (.t 52) (.c (.int .i64 1)), none⟩,
  ⟨some 1, .mv (.t 53), none⟩])
 (.seq (.region 0 [⟨some 54, .mv (.t 0), none⟩,
  ⟨some 55, .mv (.t 5), none⟩,
  ⟨some 56, .mv (.t 1), none⟩,
  ⟨some 57, .iaddr 9 (.t 54) (.t 55), none⟩,
  ⟨some 58, .faddr 6 6 (.t 57), none⟩,
  ⟨none, .store 1 (.t 58) (.t 56), none⟩])
 (.seq (.region 0 [⟨some 59, .mv (.t 1), none⟩,
  ⟨some 60, .bin .add (.t 59) (.c (.int .i64 1)), none⟩,
  ⟨some 1, .mv (.t 60), none⟩])
 (.seq (.region 0 [⟨some 61, .mv (.t 0), none⟩,
  ⟨some 62, .mv (.t 5), none⟩,
  ⟨some 63, .iaddr 9 (.t 61) (.t 62), none⟩,
  ⟨some 64, .faddr 7 7 (.t 63), none⟩,
  ⟨some 65, .loadO (.sl 2) (.t 64), none⟩,
  ⟨some 66, .mv (.t 1), none⟩,
  ⟨some 67, .callM 2 95 (.t 65) [(.t 66)], none⟩,
  ⟨some 1, .mv (.t 67), none⟩])
 (.region 0 [⟨some 68, .mv (.t 0), none⟩,
  ⟨some 69, .mv (.t 5), none⟩,
  ⟨some 70, .iaddr 9 (.t 68) (.t 69), none⟩,
  ⟨some 71, .faddr 8 8 (.t 70), none⟩,
  ⟨some 72, .loadO (.sl 2) (.t 71), none⟩,
  ⟨some 73, .mv (.t 1), none⟩,
  ⟨some 74, .callM 2 232 (.t 72) [(.t 73)], none⟩,
  ⟨some 1, .mv (.t 74), none⟩])))))))))))))))))
 (.region 0 [⟨some 10, .mv (.t 5), none⟩,
  ⟨some 11, .bin .add (.t 10) (.c (.int .i64 1)), none⟩,
  ⟨some 5, .mv (.t 11), none⟩])))
def laws_markTransactionS_M_r0 : AC :=
 (.seq (.region 0 [⟨some 75, .mv (.t 1), none⟩,
  ⟨some 4, .mv (.t 75), none⟩])
 .ret)
def laws_markTransactionS_M_ac : AC :=
 (.seq (.region 0 [⟨some 4, .mv (.c (.int .i64 0)), none⟩])
 (.seq (.seq (.region 0 [⟨some 5, .mv (.c (.int .i64 0)), none⟩])
 (.block 0 (.loop ⟨[0, 1, 5], [], [(5000, true)]⟩ laws_markTransactionS_M_b0)))
 laws_markTransactionS_M_r0))
noncomputable def laws_markTransactionS_M_l0 (E : Env) (x1 : U) (x5 : U) (b5000 : List U) : Option U := loopK (roundOf E ⟨[0, 1, 5], [], [(5000, true)]⟩ laws_markTransactionS_M_b0 (blockK 0 (seqK (fun s => exec E laws_markTransactionS_M_r0 s (finishM 9 [(4, none)])) (finishM 9 [(4, none)])))) ([.ref 5000 [] 9 none, .val x1, .val x5], [.vir (.own (.sl 9 b5000))])
theorem laws_markTransactionS_M_l0_eq (E : Env) (x1 : U) (x5 : U) (b5000 : List U) : laws_markTransactionS_M_l0 E x1 x5 b5000 =
 (U.bin .lss x5 (.int .i64 (b5000.length : Int))).bind fun t1 => U.asBool t1
 (U.asInt x5 fun n2 => if 9 = 9 ∧ 0 ≤ n2 ∧ n2 < (b5000.length : Int) then if storable (.val x1) = true ∧ x1.size = 1 then (b5000[(n2 : Int).toNat]?).bind fun e3 => U.asAgg e3 fun us4 => if 0 = sizes (us4.take 0) then (us4[0]?).bind fun e5 => if e5.size = 1 then if (x1 : U).flat = true then (U.bin .add x1 (.int .i64 1)).bind fun t6 => U.asInt x5 fun n7 => if 9 = 9 ∧ 0 ≤ n7 ∧ n7 < (((b5000.set (n2 : Int).toNat (.agg (us4.set 0 x1)))).length : Int) then if storable (.val t6) = true ∧ t6.size = 1 then ((b5000.set (n2 : Int).toNat (.agg (us4.set 0 x1)))[(n7 : Int).toNat]?).bind fun e8 => U.asAgg e8 fun us9 => if 1 = sizes (us9.take 1) then (us9[1]?).bind fun e10 => if e10.size = 1 then if (t6 : U).flat = true then (U.bin .add t6 (.int .i64 1)).bind fun t11 => U.asInt x5 fun n12 => if 9 = 9 ∧ 0 ≤ n12 ∧ n12 < ((((b5000.set (n2 : Int).toNat (.agg (us4.set 0 x1))).set (n7 : Int).toNat (.agg (us9.set 1 t6)))).length : Int) then if storable (.val t11) = true ∧ t11.size = 1 then (((b5000.set (n2 : Int).toNat (.agg (us4.set 0 x1))).set (n7 : Int).toNat (.agg (us9.set 1 t6)))[(n12 : Int).toNat]?).bind fun e13 => U.asAgg e13 fun us14 => if 2 = sizes (us14.take 2) then (us14[2]?).bind fun e15 => if e15.size = 1 then if (t11 : U).flat = true then (U.bin .add t11 (.int .i64 1)).bind fun t16 => U.asInt x5 fun n17 => if 9 = 9 ∧ 0 ≤ n17 ∧ n17 < (((((b5000.set (n2 : Int).toNat (.agg (us4.set 0 x1))).set (n7 : Int).toNat (.agg (us9.set 1 t6))).set (n12 : Int).toNat (.agg (us14.set 2 t11)))).length : Int) then if storable (.val t16) = true ∧ t16.size = 1 then ((((b5000.set (n2 : Int).toNat (.agg (us4.set 0 x1))).set (n7 : Int).toNat (.agg (us9.set 1 t6))).set (n12 : Int).toNat (.agg (us14.set 2 t11)))[(n17 : Int).toNat]?).bind fun e18 => U.asAgg e18 fun us19 => if 3 = sizes (us19.take 3) then (us19[3]?).bind fun e20 => if e20.size = 1 then if (t16 : U).flat = true then (U.bin .add t16 (.int .i64 1)).bind fun t21 => U.asInt x5 fun n22 => if 9 = 9 ∧ 0 ≤ n22 ∧ n22 < ((((((b5000.set (n2 : Int).toNat (.agg (us4.set 0 x1))).set (n7 : Int).toNat (.agg (us9.set 1 t6))).set (n12 : Int).toNat (.agg (us14.set 2 t11))).set (n17 : Int).toNat (.agg (us19.set 3 t16)))).length : Int) then if storable (.val t21) = true ∧ t21.size = 1 then (((((b5000.set (n2 : Int).toNat (.agg (us4.set 0 x1))).set (n7 : Int).toNat (.agg (us9.set 1 t6))).set (n12 : Int).toNat (.agg (us14.set 2 t11))).set (n17 : Int).toNat (.agg (us19.set 3 t16)))[(n22 : Int).toNat]?).bind fun e23 => U.asAgg e23 fun us24 => if 4 = sizes (us24.take 4) then (us24[4]?).bind fun e25 => if e25.size = 1 then if (t21 : U).flat = true then (U.bin .add t21 (.int .i64 1)).bind fun t26 => U.asInt x5 fun n27 => if 9 = 9 ∧ 0 ≤ n27 ∧ n27 < (((((((b5000.set (n2 : Int).toNat (.agg (us4.set 0 x1))).set (n7 : Int).toNat (.agg (us9.set 1 t6))).set (n12 : Int).toNat (.agg (us14.set 2 t11))).set (n17 : Int).toNat (.agg (us19.set 3 t16))).set (n22 : Int).toNat (.agg (us24.set 4 t21)))).length : Int) then if storable (.val t26) = true ∧ t26.size = 1 then ((((((b5000.set (n2 : Int).toNat (.agg (us4.set 0 x1))).set (n7 : Int).toNat (.agg (us9.set 1 t6))).set (n12 : Int).toNat (.agg (us14.set 2 t11))).set (n17 : Int).toNat (.agg (us19.set 3 t16))).set (n22 : Int).toNat (.agg (us24.set 4 t21)))[(n27 : Int).toNat]?).bind fun e28 => U.asAgg e28 fun us29 => if 5 = sizes (us29.take 5) then (us29[5]?).bind fun e30 => if e30.size = 1 then if (t26 : U).flat = true then (U.bin .add t26 (.int .i64 1)).bind fun t31 => U.asInt x5 fun n32 => if 9 = 9 ∧ 0 ≤ n32 ∧ n32 < ((((((((b5000.set (n2 : Int).toNat (.agg (us4.set 0 x1))).set (n7 : Int).toNat (.agg (us9.set 1 t6))).set (n12 : Int).toNat (.agg (us14.set 2 t11))).set (n17 : Int).toNat (.agg (us19.set 3 t16))).set (n22 : Int).toNat (.agg (us24.set 4 t21))).set (n27 : Int).toNat (.agg (us29.set 5 t26)))).length : Int) then if storable (.val t31) = true ∧ t31.size = 1 then (((((((b5000.set (n2 : Int).toNat (.agg (us4.set 0 x1))).set (n7 : Int).toNat (.agg (us9.set 1 t6))).set (n12 : Int).toNat (.agg (us14.set 2 t11))).set (n17 : Int).toNat (.agg (us19.set 3 t16))).set (n22 : Int).toNat (.agg (us24.set 4 t21))).set (n27 : Int).toNat (.agg (us29.set 5 t26)))[(n32 : Int).toNat]?).bind fun e33 => U.asAgg e33 fun us34 => if 6 = sizes (us34.take 6) then (us34[6]?).bind fun e35 => if e35.size = 1 then if (t31 : U).flat = true then (U.bin .add t31 (.int .i64 1)).bind fun t36 => U.asInt x5 fun n37 => if 9 = 9 ∧ 0 ≤ n37 ∧ n37 < (((((((((b5000.set (n2 : Int).toNat (.agg (us4.set 0 x1))).set (n7 : Int).toNat (.agg (us9.set 1 t6))).set (n12 : Int).toNat (.agg (us14.set 2 t11))).set (n17 : Int).toNat (.agg (us19.set 3 t16))).set (n22 : Int).toNat (.agg (us24.set 4 t21))).set (n27 : Int).toNat (.agg (us29.set 5 t26))).set (n32 : Int).toNat (.agg (us34.set 6 t31)))).length : Int) then ((((((((b5000.set (n2 : Int).toNat (.agg (us4.set 0 x1))).set (n7 : Int).toNat (.agg (us9.set 1 t6))).set (n12 : Int).toNat (.agg (us14.set 2 t11))).set (n17 : Int).toNat (.agg (us19.set 3 t16))).set (n22 : Int).toNat (.agg (us24.set 4 t21))).set (n27 : Int).toNat (.agg (us29.set 5 t26))).set (n32 : Int).toNat (.agg (us34.set 6 t31)))[(n37 : Int).toNat]?).bind fun e38 => U.asAgg e38 fun us39 => if 7 = sizes (us39.take 7) then (us39[7]?).bind fun e40 => U.asSlK 2 e40 fun _ => ((((((((b5000.set (n2 : Int).toNat (.agg (us4.set 0 x1))).set (n7 : Int).toNat (.agg (us9.set 1 t6))).set (n12 : Int).toNat (.agg (us14.set 2 t11))).set (n17 : Int).toNat (.agg (us19.set 3 t16))).set (n22 : Int).toNat (.agg (us24.set 4 t21))).set (n27 : Int).toNat (.agg (us29.set 5 t26))).set (n32 : Int).toNat (.agg (us34.set 6 t31)))[(n37 : Int).toNat]?).bind fun e41 => U.asAgg e41 fun us42 => if 7 = sizes (us42.take 7) then (us42[7]?).bind fun e43 => U.asSlK 2 e43 fun _ => U.asSlK 2 e43 fun us44 => (E 200095 (.agg [.tup [.sl 2 us44]] :: [t36])).bind fun t45 => U.asMut 2 t45 fun y46 ys47 => U.asFlat y46 fun y46 => ((((((((b5000.set (n2 : Int).toNat (.agg (us4.set 0 x1))).set (n7 : Int).toNat (.agg (us9.set 1 t6))).set (n12 : Int).toNat (.agg (us14.set 2 t11))).set (n17 : Int).toNat (.agg (us19.set 3 t16))).set (n22 : Int).toNat (.agg (us24.set 4 t21))).set (n27 : Int).toNat (.agg (us29.set 5 t26))).set (n32 : Int).toNat (.agg (us34.set 6 t31)))[(n37 : Int).toNat]?).bind fun e48 => U.asAgg e48 fun us49 => if 7 = sizes (us49.take 7) then (us49[7]?).bind fun e50 => if e50.size = 1 then U.asInt x5 fun n51 => if 9 = 9 ∧ 0 ≤ n51 ∧ n51 < ((((((((((b5000.set (n2 : Int).toNat (.agg (us4.set 0 x1))).set (n7 : Int).toNat (.agg (us9.set 1 t6))).set (n12 : Int).toNat (.agg (us14.set 2 t11))).set (n17 : Int).toNat (.agg (us19.set 3 t16))).set (n22 : Int).toNat (.agg (us24.set 4 t21))).set (n27 : Int).toNat (.agg (us29.set 5 t26))).set (n32 : Int).toNat (.agg (us34.set 6 t31))).set (n37 : Int).toNat (.agg (us49.set 7 (.sl 2 ys47))))).length : Int) then (((((((((b5000.set (n2 : Int).toNat (.agg (us4.set 0 x1))).set (n7 : Int).toNat (.agg (us9.set 1 t6))).set (n12 : Int).toNat (.agg (us14.set 2 t11))).set (n17 : Int).toNat (.agg (us19.set 3 t16))).set (n22 : Int).toNat (.agg (us24.set 4 t21))).set (n27 : Int).toNat (.agg (us29.set 5 t26))).set (n32 : Int).toNat (.agg (us34.set 6 t31))).set (n37 : Int).toNat (.agg (us49.set 7 (.sl 2 ys47))))[(n51 : Int).toNat]?).bind fun e52 => U.asAgg e52 fun us53 => if 8 = sizes (us53.take 8) then (us53[8]?).bind fun e54 => U.asSlK 2 e54 fun _ => (((((((((b5000.set (n2 : Int).toNat (.agg (us4.set 0 x1))).set (n7 : Int).toNat (.agg (us9.set 1 t6))).set (n12 : Int).toNat (.agg (us14.set 2 t11))).set (n17 : Int).toNat (.agg (us19.set 3 t16))).set (n22 : Int).toNat (.agg (us24.set 4 t21))).set (n27 : Int).toNat (.agg (us29.set 5 t26))).set (n32 : Int).toNat (.agg (us34.set 6 t31))).set (n37 : Int).toNat (.agg (us49.set 7 (.sl 2 ys47))))[(n51 : Int).toNat]?).bind fun e55 => U.asAgg e55 fun us56 => if 8 = sizes (us56.take 8) then (us56[8]?).bind fun e57 => U.asSlK 2 e57 fun _ => U.asSlK 2 e57 fun us58 => (E 200232 (.agg [.tup [.sl 2 us58]] :: [y46])).bind fun t59 => U.asMut 2 t59 fun y60 ys61 => U.asFlat y60 fun y60 => (((((((((b5000.set (n2 : Int).toNat (.agg (us4.set 0 x1))).set (n7 : Int).toNat (.agg (us9.set 1 t6))).set (n12 : Int).toNat (.agg (us14.set 2 t11))).set (n17 : Int).toNat (.agg (us19.set 3 t16))).set (n22 : Int).toNat (.agg (us24.set 4 t21))).set (n27 : Int).toNat (.agg (us29.set 5 t26))).set (n32 : Int).toNat (.agg (us34.set 6 t31))).set (n37 : Int).toNat (.agg (us49.set 7 (.sl 2 ys47))))[(n51 : Int).toNat]?).bind fun e62 => U.asAgg e62 fun us63 => if 8 = sizes (us63.take 8) then (us63[8]?).bind fun e64 => if e64.size = 1 then (U.bin .add x5 (.int .i64 1)).bind fun t65 => laws_markTransactionS_M_l0 E y60 t65 (((((((((b5000.set (n2 : Int).toNat (.agg (us4.set 0 x1))).set (n7 : Int).toNat (.agg (us9.set 1 t6))).set (n12 : Int).toNat (.agg (us14.set 2 t11))).set (n17 : Int).toNat (.agg (us19.set 3 t16))).set (n22 : Int).toNat (.agg (us24.set 4 t21))).set (n27 : Int).toNat (.agg (us29.set 5 t26))).set (n32 : Int).toNat (.agg (us34.set 6 t31))).set (n37 : Int).toNat (.agg (us49.set 7 (.sl 2 ys47)))).set (n51 : Int).toNat (.agg (us63.set 8 (.sl 2 ys61)))) else none else none else none else none else none else none else none else none else none else none else none else none else none else none else none else none else none else none else none else none else none else none else none else none else none else none else none else none else none else none else none else none else none else none else none else none else none else none else none else none else none else none else none else none else none)
 (if (x1 : U).flat = true then some (.tup [x1, .sl 9 b5000]) else none) :=
 (loop_eq E _ _ _ _).trans (by kernel_rfl)
structure G_laws_markTransactionS_M (E : Env) : Prop where
  is : Is E 200318 2 laws_markTransactionS_M_ac [(4, none)]
  c_laws_markReadMarkS_M : G_laws_markReadMarkS_M E
  c_laws_markWriteS_M : G_laws_markWriteS_M E
theorem laws_markTransactionS_M_E {E : Env} (h : G_laws_markTransactionS_M E) (xs0 : List U) (a1 : U) : E 200318 (.agg [.tup [.sl 9 xs0]] :: [a1]) =
 laws_markTransactionS_M_l0 E a1 (.int .i64 0) xs0 := (h.is _ rfl).trans ((runQ_M rfl).trans (by kernel_rfl))
end Go.Proofs.Ytfdcdbkblkehcaa.Am
namespace Go.Proofs.Ytfdcdbkblkehcaa.Am
open Go
set_option linter.unusedVariables false
set_option maxRecDepth 100000
def laws_markLockS_M_b0 : AC :=
 (.seq (.seq (.region 0 [⟨some 6, .mv (.t 5), none⟩,
  ⟨some 7, .mv (.t 0), none⟩,
  ⟨some 8, .len false (.t 7), none⟩,
  ⟨some 9, .bin .lss (.t 6) (.t 8), none⟩])
 (.cond (.t 9) .skip (.exit 0)))
 (.seq (.block 1 (.seq (.region 0 [⟨some 12, .mv (.t 0), none⟩,
  ⟨some 13, .mv (.t 5), none⟩,
  ⟨some 14, .mv (.t 1), none⟩,
  ⟨some 15, .iaddr 2 (.t 12) (.t 13), none⟩,
  ⟨some 16, .faddr 0 0 (.t 15), none⟩,
  ⟨none, .store 1 (.t 16) (.t 14), none⟩])
 (.seq (.region 0 [⟨some 17, .mv (.t 1), none⟩,
  ⟨some 18, .bin .add (.t 17) (.c (.int .i64 1)), none⟩,
  ⟨some 1, .mv (.t 18), none⟩])
 (.seq (.region 0 [⟨some 19, .mv (.t 0), none⟩,
  ⟨some 20, .mv (.t 5), none⟩,
  ⟨some 21, .mv (.t 1), none⟩,
  ⟨some 22, .iaddr 2 (.t 19) (.t 20), none⟩,
  ⟨some 23, .faddr 1 1 (.t 22), none⟩,
  ⟨none, .store 1 (.t 23) (.t 21), none⟩])
 (.region 0 [⟨some 24, .mv (.t 1), none⟩,
  ⟨some 25, .bin .add (.t 24) (.c (.int .i64 1)), none⟩,
  ⟨some 1, .mv (.t 25), none⟩])))))
 (.region 0 [⟨some 10, .mv (.t 5), none⟩,
  ⟨some 11, .bin .add (.t 10) (.c (.int .i64 1)), none⟩,
  ⟨some 5, .mv (.t 11), none⟩])))
def laws_markLockS_M_r0 : AC :=
 (.seq (.region 0 [⟨some 26, .mv (.t 1), none⟩,
  ⟨some 4, .mv (.t 26), none⟩])
 .ret)
def laws_markLockS_M_ac : AC :=
 (.seq (.region 0 [⟨some 4, .mv (.c (.int .i64 0)), none⟩])
 (.seq (.seq (.region 0 [⟨some 5, .mv (.c (.int .i64 0)), none⟩])
 (.block 0 (.loop ⟨[0, 1, 5], [], [(5000, true)]⟩ laws_markLockS_M_b0)))
 laws_markLockS_M_r0))
noncomputable def laws_markLockS_M_l0 (E : Env) (x1 : U) (x5 : U) (b5000 : List U) : Option U := loopK (roundOf E ⟨[0, 1, 5], [], [(5000, true)]⟩ laws_markLockS_M_b0 (blockK 0 (seqK (fun s => exec E laws_markLockS_M_r0 s (finishM 2 [(4, none)])) (finishM 2 [(4, none)])))) ([.ref 5000 [] 2 none, .val x1, .val x5], [.vir (.own (.sl 2 b5000))])
theorem laws_markLockS_M_l0_eq (E : Env) (x1 : U) (x5 : U) (b5000 : List U) : laws_markLockS_M_l0 E x1 x5 b5000 =
 (U.bin .lss x5 (.int .i64 (b5000.length : Int))).bind fun t1 => U.asBool t1
 (U.asInt x5 fun n2 => if 2 = 2 ∧ 0 ≤ n2 ∧ n2 < (b5000.length : Int) then if storable (.val x1) = true ∧ x1.size = 1 then (b5000[(n2 : Int).toNat]?).bind fun e3 => U.asAgg e3 fun us4 => if 0 = sizes (us4.take 0) then (us4[0]?).bind fun e5 => if e5.size = 1 then if (x1 : U).flat = true then (U.bin .add x1 (.int .i64 1)).bind fun t6 => U.asInt x5 fun n7 => if 2 = 2 ∧ 0 ≤ n7 ∧ n7 < (((b5000.set (n2 : Int).toNat (.agg (us4.set 0 x1)))).length : Int) then if storable (.val t6) = true ∧ t6.size = 1 then ((b5000.set (n2 : Int).toNat (.agg (us4.set 0 x1)))[(n7 : Int).toNat]?).bind fun e8 => U.asAgg e8 fun us9 => if 1 = sizes (us9.take 1) then (us9[1]?).bind fun e10 => if e10.size = 1 then if (t6 : U).flat = true then (U.bin .add t6 (.int .i64 1)).bind fun t11 => (U.bin .add x5 (.int .i64 1)).bind fun t12 => laws_markLockS_M_l0 E t11 t12 ((b5000.set (n2 : Int).toNat (.agg (us4.set 0 x1))).set (n7 : Int).toNat (.agg (us9.set 1 t6))) else none else none else none else none else none else none else none else none else none else none)
 (if (x1 : U).flat = true then some (.tup [x1, .sl 2 b5000]) else none) :=
 (loop_eq E _ _ _ _).trans (by kernel_rfl)
structure G_laws_markLockS_M (E : Env) : Prop where
  is : Is E 200317 2 laws_markLockS_M_ac [(4, none)]
theorem laws_markLockS_M_E {E : Env} (h : G_laws_markLockS_M E) (xs0 : List U) (a1 : U) : E 200317 (.agg [.tup [.sl 2 xs0]] :: [a1]) =
 laws_markLockS_M_l0 E a1 (.int .i64 0) xs0 := (h.is _ rfl).trans ((runQ_M rfl).trans (by kernel_rfl))
end Go.Proofs.Ytfdcdbkblkehcaa.Am
namespace Go.Proofs.Ytfdcdbkblkehcaa.Am
open Go
set_option linter.unusedVariables false
set_option maxRecDepth 100000
def laws_markWaitS_M_b0 : AC :=
 (.seq (.seq (.region 0 [⟨some 6, .mv (.t 5), none⟩,
  ⟨some 7, .mv (.t 0), none⟩,
  ⟨some 8, .len false (.t 7), none⟩,
  ⟨some 9, .bin .lss (.t 6) (.t 8), none⟩])
 (.cond (.t 9) .skip (.exit 0)))
 (.seq (.block 1 (.seq (.region 0 [⟨some 12, .mv (.t 0), none⟩,
  ⟨some 13, .mv (.t 5), none⟩,
  ⟨some 14, .mv (.t 1), none⟩,
  ⟨some 15, .iaddr 2 (.t 12) (.t 13), none⟩,
  ⟨some 16, .faddr 0 0 (.t 15), none⟩,
  ⟨none, .store 1 (.t 16) (.t 14), none⟩])
 (.seq (.region 0 [⟨some 17, .mv (.t 1), none⟩,
  ⟨some 18, .bin .add (.t 17) (.c (.int .i64 1)), none⟩,
  ⟨some 1, .mv (.t 18), none⟩])
 (.seq (.region 0 [⟨some 19, .mv (.t 0), none⟩,
  ⟨some 20, .mv (.t 5), none⟩,
  ⟨some 21, .mv (.t 1), none⟩,
  ⟨some 22, .iaddr 2 (.t 19) (.t 20), none⟩,
  ⟨some 23, .faddr 1 1 (.t 22), none⟩,
  ⟨none, .store 1 (.t 23) (.t 21), none⟩])
 (.region 0 [⟨some 24, .mv (.t 1), none⟩,
  ⟨some 25, .bin .add (.t 24) (.c (.int .i64 1)), none⟩,
  ⟨some 1, .mv (.t 25), none⟩])))))
 (.region 0 [⟨some 10, .mv (.t 5), none⟩,
  ⟨some 11, .bin .add (.t 10) (.c (.int .i64 1)), none⟩,
  ⟨some 5, .mv (.t 11), none⟩])))
def laws_markWaitS_M_r0 : AC :=
 (.seq (.region 0 [⟨some 26, .mv (.t 1), none⟩,
  ⟨some 4, .mv (.t 26), none⟩])
 .ret)
def laws_markWaitS_M_ac : AC :=
 (.seq (.region 0 [⟨some 4, .mv (.c (.int .i64 0)), none⟩])
 (.seq (.seq (.region 0 [⟨some 5, .mv (.c (.int .i64 0)), none⟩])
 (.block 0 (.loop ⟨[0, 1, 5], [], [(5000, true)]⟩ laws_markWaitS_M_b0)))
 laws_markWaitS_M_r0))
noncomputable def laws_markWaitS_M_l0 (E : Env) (x1 : U) (x5 : U) (b5000 : List U) : Option U := loopK (roundOf E ⟨[0, 1, 5], [], [(5000, true)]⟩ laws_markWaitS_M_b0 (blockK 0 (seqK (fun s => exec E laws_markWaitS_M_r0 s (finishM 2 [(4, none)])) (finishM 2 [(4, none)])))) ([.ref 5000 [] 2 none, .val x1, .val x5], [.vir (.own (.sl 2 b5000))])
theorem laws_markWaitS_M_l0_eq (E : Env) (x1 : U) (x5 : U) (b5000 : List U) : laws_markWaitS_M_l0 E x1 x5 b5000 =
 (U.bin .lss x5 (.int .i64 (b5000.length : Int))).bind fun t1 => U.asBool t1
 (U.asInt x5 fun n2 => if 2 = 2 ∧ 0 ≤ n2 ∧ n2 < (b5000.length : Int) then if storable (.val x1) = true ∧ x1.size = 1 then (b5000[(n2 : Int).toNat]?).bind fun e3 => U.asAgg e3 fun us4 => if 0 = sizes (us4.take 0) then (us4[0]?).bind fun e5 => if e5.size = 1 then if (x1 : U).flat = true then (U.bin .add x1 (.int .i64 1)).bind fun t6 => U.asInt x5 fun n7 => if 2 = 2 ∧ 0 ≤ n7 ∧ n7 < (((b5000.set (n2 : Int).toNat (.agg (us4.set 0 x1)))).length : Int) then if storable (.val t6) = true ∧ t6.size = 1 then ((b5000.set (n2 : Int).toNat (.agg (us4.set 0 x1)))[(n7 : Int).toNat]?).bind fun e8 => U.asAgg e8 fun us9 => if 1 = sizes (us9.take 1) then (us9[1]?).bind fun e10 => if e10.size = 1 then if (t6 : U).flat = true then (U.bin .add t6 (.int .i64 1)).bind fun t11 => (U.bin .add x5 (.int .i64 1)).bind fun t12 => laws_markWaitS_M_l0 E t11 t12 ((b5000.set (n2 : Int).toNat (.agg (us4.set 0 x1))).set (n7 : Int).toNat (.agg (us9.set 1 t6))) else none else none else none else none else none else none else none else none else none else none)
 (if (x1 : U).flat = true then some (.tup [x1, .sl 2 b5000]) else none) :=
 (loop_eq E _ _ _ _).trans (by kernel_rfl)
structure G_laws_markWaitS_M (E : Env) : Prop where
  is : Is E 200316 2 laws_markWaitS_M_ac [(4, none)]
theorem laws_markWaitS_M_E {E : Env} (h : G_laws_markWaitS_M E) (xs0 : List U) (a1 : U) : E 200316 (.agg [.tup [.sl 2 xs0]] :: [a1]) =
 laws_markWaitS_M_l0 E a1 (.int .i64 0) xs0 := (h.is _ rfl).trans ((runQ_M rfl).trans (by kernel_rfl))
end Go.Proofs.Ytfdcdbkblkehcaa.Am
namespace Go.Proofs.Ytfdcdbkblkehcaa.Am
open Go
set_option linter.unusedVariables false
set_option maxRecDepth 100000
def laws_markVersionS_M_b0 : AC :=
 (.seq (.seq (.region 0 [⟨some 6, .mv (.t 5), none⟩,
  ⟨some 7, .mv (.t 0), none⟩,
  ⟨some 8, .len false (.t 7), none⟩,
  ⟨some 9, .bin .lss (.t 6) (.t 8), none⟩])
 (.cond (.t 9) .skip (.exit 0)))
 (.seq (.block 1 (.seq (.region 0 [⟨some 12, .mv (.t 0), none⟩,
  ⟨some 13, .mv (.t 5), none⟩,
  ⟨some 14, .mv (.t 1), none⟩,
  ⟨some 15, .iaddr 5 (.t 12) (.t 13), none⟩,
  ⟨some 16, .faddr 0 0 (.t 15), none⟩,
  ⟨none, .store 1 (.t 16) (.t 14), none⟩])
 (.seq (.region 0 [⟨some 17, .mv (.t 1), none⟩,
  ⟨some 18, .bin .add (.t 17) (.c (.int .i64 1)), none⟩,
  ⟨some 1, .mv (.t 18), none⟩])
 (.seq (.region 0 [⟨some 19, .mv (.t 0), none⟩,
  ⟨some 20, .mv (.t 5), none⟩,
  ⟨some 21, .mv (.t 1), none⟩,
  ⟨some 22, .iaddr 5 (.t 19) (.t 20), none⟩,
  ⟨some 23, .faddr 1 1 (.t 22), none⟩,
  ⟨none, .store 1 (.t 23) (.t 21), none⟩])
 (.seq (.region 0 [⟨some 24, .mv (.t 1), none⟩,
  ⟨some 25, .bin .add (.t 24) (.c (.int .i64 1)), none⟩,
  ⟨some 1, .mv (.t 25), none⟩])
 (.seq (.region 0 [⟨some 26, .mv (.t 0), none⟩,
  ⟨some 27, .mv (.t 5), none⟩,
  ⟨some 28, .mv (.t 1), none⟩,
  ⟨some 29, .iaddr 5 (.t 26) (.t 27), none⟩,
  ⟨some 30, .faddr 2 2 (.t 29), none⟩,
  ⟨none, .store 1 (.t 30) (.t 28), none⟩])
 (.seq (.region 0 [⟨some 31, .mv (.t 1), none⟩,
  ⟨some 32, .bin .add (.t 31) (.c (.int .i64 1)), none⟩,
  ⟨some 1, .mv (.t 32), none⟩])
 (.seq (.region 0 [⟨some 33, .mv (.t 0), none⟩,
  ⟨some 34, .mv (.t 5), none⟩,
  ⟨some 35, .mv (.t 1), none⟩,
  ⟨some 36, .iaddr 5 (.t 33) (.t 34), none⟩,
  ⟨some 37, .faddr 3 3 (.t 36), none⟩,
  ⟨none, .store 1 (.t 37) (.t 35), none⟩])
 (.seq (.region 0 [⟨some 38, .mv (.t 1), none⟩,
  ⟨some 39, .bin .add (.t 38) (.c (.int .i64 1)), none⟩,
  ⟨some 1, .mv (.t 39), none⟩])
 (.seq (.region 0 [⟨some 40, .mv (.t 0), none⟩,
  ⟨some 41, .mv (.t 5), none⟩,
  ⟨some 42, .mv (.t 1), none⟩,
  ⟨some 43, .iaddr 5 (.t 40) (.t 41), none⟩,
  ⟨some 44, .faddr 4 4 (.t 43), none⟩,
  ⟨none, .store 1 (.t 44) (.t 42), none⟩])
 (.region 0 [⟨some 45, .mv (.t 1), none⟩,
  ⟨some 46, .bin .add (.t 45) (.c (.int .i64 1)), none⟩,
  ⟨some 1, .mv (.t 46), none⟩])))))))))))
 (.region 0 [⟨some 10, .mv (.t 5), none⟩,
  ⟨some 11, .bin .add (.t 10) (.c (.int .i64 1)), none⟩,
  ⟨some 5, .mv (.t 11), none⟩])))
def laws_markVersionS_M_r0 : AC :=
 (.seq (.region 0 [⟨some 47, .mv (.t 1), none⟩,
  ⟨some 4, .mv (.t 47), none⟩])
 .ret)
def laws_markVersionS_M_ac : AC :=
 (.seq (.region 0 [⟨some 4, .mv (.c (.int .i64 0)), none⟩])
 (.seq (.seq (.region 0 [⟨some 5, .mv (.c (.int .i64 0)), none⟩])
 (.block 0 (.loop ⟨[0, 1, 5], [], [(5000, true)]⟩ laws_markVersionS_M_b0)))
 laws_markVersionS_M_r0))
noncomputable def laws_markVersionS_M_l0 (E : Env) (x1 : U) (x5 : U) (b5000 : List U) : Option U := loopK (roundOf E ⟨[0, 1, 5], [], [(5000, true)]⟩ laws_markVersionS_M_b0 (blockK 0 (seqK (fun s => exec E laws_markVersionS_M_r0 s (finishM 5 [(4, none)])) (finishM 5 [(4, none)])))) ([.ref 5000 [] 5 none, .val x1, .val x5], [.vir (.own (.sl 5 b5000))])
theorem laws_markVersionS_M_l0_eq (E : Env) (x1 : U) (x5 : U) (b5000 : List U) : laws_markVersionS_M_l0 E x1 x5 b5000 =
 (U.bin .lss x5 (.int .i64 (b5000.length : Int))).bind fun t1 => U.asBool t1
 (U.asInt x5 fun n2 => if 5 = 5 ∧ 0 ≤ n2 ∧ n2 < (b5000.length : Int) then if storable (.val x1) = true ∧ x1.size = 1 then (b5000[(n2 : Int).toNat]?).bind fun e3 => U.asAgg e3 fun us4 => if 0 = sizes (us4.take 0) then (us4[0]?).bind fun e5 => if e5.size = 1 then if (x1 : U).flat = true then (U.bin .add x1 (.int .i64 1)).bind fun t6 => U.asInt x5 fun n7 => if 5 = 5 ∧ 0 ≤ n7 ∧ n7 < (((b5000.set (n2 : Int).toNat (.agg (us4.set 0 x1)))).length : Int) then if storable (.val t6) = true ∧ t6.size = 1 then ((b5000.set (n2 : Int).toNat (.agg (us4.set 0 x1)))[(n7 : Int).toNat]?).bind fun e8 => U.asAgg e8 fun us9 => if 1 = sizes (us9.take 1) then (us9[1]?).bind fun e10 => if e10.size = 1 then if (t6 : U).flat = true then (U.bin .add t6 (.int .i64 1)).bind fun t11 => U.asInt x5 fun n12 => if 5 = 5 ∧ 0 ≤ n12 ∧ n12 < ((((b5000.set (n2 : Int).toNat (.agg (us4.set 0 x1))).set (n7 : Int).toNat (.agg (us9.set 1 t6)))).length : Int) then if storable (.val t11) = true ∧ t11.size = 1 then (((b5000.set (n2 : Int).toNat (.agg (us4.set 0 x1))).set (n7 : Int).toNat (.agg (us9.set 1 t6)))[(n12 : Int).toNat]?).bind fun e13 => U.asAgg e13 fun us14 => if 2 = sizes (us14.take 2) then (us14[2]?).bind fun e15 => if e15.size = 1 then if (t11 : U).flat = true then (U.bin .add t11 (.int .i64 1)).bind fun t16 => U.asInt x5 fun n17 => if 5 = 5 ∧ 0 ≤ n17 ∧ n17 < (((((b5000.set (n2 : Int).toNat (.agg (us4.set 0 x1))).set (n7 : Int).toNat (.agg (us9.set 1 t6))).set (n12 : Int).toNat (.agg (us14.set 2 t11)))).length : Int) then if storable (.val t16) = true ∧ t16.size = 1 then ((((b5000.set (n2 : Int).toNat (.agg (us4.set 0 x1))).set (n7 : Int).toNat (.agg (us9.set 1 t6))).set (n12 : Int).toNat (.agg (us14.set 2 t11)))[(n17 : Int).toNat]?).bind fun e18 => U.asAgg e18 fun us19 => if 3 = sizes (us19.take 3) then (us19[3]?).bind fun e20 => if e20.size = 1 then if (t16 : U).flat = true then (U.bin .add t16 (.int .i64 1)).bind fun t21 => U.asInt x5 fun n22 => if 5 = 5 ∧ 0 ≤ n22 ∧ n22 < ((((((b5000.set (n2 : Int).toNat (.agg (us4.set 0 x1))).set (n7 : Int).toNat (.agg (us9.set 1 t6))).set (n12 : Int).toNat (.agg (us14.set 2 t11))).set (n17 : Int).toNat (.agg (us19.set 3 t16)))).length : Int) then if storable (.val t21) = true ∧ t21.size = 1 then (((((b5000.set (n2 : Int).toNat (.agg (us4.set 0 x1))).set (n7 : Int).toNat (.agg (us9.set 1 t6))).set (n12 : Int).toNat (.agg (us14.set 2 t11))).set (n17 : Int).toNat (.agg (us19.set 3 t16)))[(n22 : Int).toNat]?).bind fun e23 => U.asAgg e23 fun us24 => if 4 = sizes (us24.take 4) then (us24[4]?).bind fun e25 => if e25.size = 1 then if (t21 : U).flat = true then (U.bin .add t21 (.int .i64 1)).bind fun t26 => (U.bin .add x5 (.int .i64 1)).bind fun t27 => laws_markVersionS_M_l0 E t26 t27 (((((b5000.set (n2 : Int).toNat (.agg (us4.set 0 x1))).set (n7 : Int).toNat (.agg (us9.set 1 t6))).set (n12 : Int).toNat (.agg (us14.set 2 t11))).set (n17 : Int).toNat (.agg (us19.set 3 t16))).set (n22 : Int).toNat (.agg (us24.set 4 t21))) else none else none else none else none else none else none else none else none else none else none else none else none else none else none else none else none else none else none else none else none else none else none else none else none else none)
 (if (x1 : U).flat = true then some (.tup [x1, .sl 5 b5000]) else none) :=
 (loop_eq E _ _ _ _).trans (by kernel_rfl)
structure G_laws_markVersionS_M (E : Env) : Prop where
  is : Is E 200122 2 laws_markVersionS_M_ac [(4, none)]
theorem laws_markVersionS_M_E {E : Env} (h : G_laws_markVersionS_M E) (xs0 : List U) (a1 : U) : E 200122 (.agg [.tup [.sl 5 xs0]] :: [a1]) =
 laws_markVersionS_M_l0 E a1 (.int .i64 0) xs0 := (h.is _ rfl).trans ((runQ_M rfl).trans (by kernel_rfl))
end Go.Proofs.Ytfdcdbkblkehcaa.Am
namespace Go.Proofs.Ytfdcdbkblkehcaa.Am
open Go
set_option linter.unusedVariables false
set_option maxRecDepth 100000
def laws_markVersionSS_M_b0 : AC :=
 (.seq (.seq (.region 0 [⟨some 6, .mv (.t 5), none⟩,
  ⟨some 7, .mv (.t 0), none⟩,
  ⟨some 8, .len false (.t 7), none⟩,
  ⟨some 9, .bin .lss (.t 6) (.t 8), none⟩])
 (.cond (.t 9) .skip (.exit 0)))
 (.seq (.block 1 (.region 0 [⟨some 12, .mv (.t 0), none⟩,
  ⟨some 13, .mv (.t 5), none⟩,
  ⟨some 14, .iaddr 1 (.t 12) (.t 13), none⟩,
  ⟨some 15, .loadO (.sl 5) (.t 14), none⟩,
  ⟨some 16, .mv (.t 1), none⟩,
  ⟨some 17, .callM 5 122 (.t 15) [(.t 16)], none⟩,
  ⟨some 1, .mv (.t 17), none⟩]))
 (.region 0 [⟨some 10, .mv (.t 5), none⟩,
  ⟨some 11, .bin .add (.t 10) (.c (.int .i64 1)), none⟩,
  ⟨some 5, .mv (.t 11), none⟩])))
def laws_markVersionSS_M_r0 : AC :=
 (.seq (.region 0 [⟨some 18, .mv (.t 1), none⟩,
  ⟨some 4, .mv (.t 18), none⟩])
 .ret)
def laws_markVersionSS_M_ac : AC :=
 (.seq (.region 0 [⟨some 4, .mv (.c (.int .i64 0)), none⟩])
 (.seq (.seq (.region 0 [⟨some 5, .mv (.c (.int .i64 0)), none⟩])
 (.block 0 (.loop ⟨[0, 1, 5], [], [(5000, true)]⟩ laws_markVersionSS_M_b0)))
 laws_markVersionSS_M_r0))
noncomputable def laws_markVersionSS_M_l0 (E : Env) (x1 : U) (x5 : U) (b5000 : List U) : Option U := loopK (roundOf E ⟨[0, 1, 5], [], [(5000, true)]⟩ laws_markVersionSS_M_b0 (blockK 0 (seqK (fun s => exec E laws_markVersionSS_M_r0 s (finishM 1 [(4, none)])) (finishM 1 [(4, none)])))) ([.ref 5000 [] 1 none, .val x1, .val x5], [.vir (.own (.sl 1 b5000))])
theorem laws_markVersionSS_M_l0_eq (E : Env) (x1 : U) (x5 : U) (b5000 : List U) : laws_markVersionSS_M_l0 E x1 x5 b5000 =
 (U.bin .lss x5 (.int .i64 (b5000.length : Int))).bind fun t1 => U.asBool t1
 (U.asInt x5 fun n2 => if 1 = 1 ∧ 0 ≤ n2 ∧ n2 < (b5000.length : Int) then (b5000[(n2 : Int).toNat]?).bind fun e3 => U.asSlK 5 e3 fun _ => (b5000[(n2 : Int).toNat]?).bind fun e4 => U.asSlK 5 e4 fun _ => U.asSlK 5 e4 fun us5 => (E 200122 (.agg [.tup [.sl 5 us5]] :: [x1])).bind fun t6 => U.asMut 5 t6 fun y7 ys8 => U.asFlat y7 fun y7 => (b5000[(n2 : Int).toNat]?).bind fun e9 => if e9.size = 1 then (U.bin .add x5 (.int .i64 1)).bind fun t10 => laws_markVersionSS_M_l0 E y7 t10 (b5000.set (n2 : Int).toNat (.sl 5 ys8)) else none else none)
 (if (x1 : U).flat = true then some (.tup [x1, .sl 1 b5000]) else none) :=
 (loop_eq E _ _ _ _).trans (by kernel_rfl)
structure G_laws_markVersionSS_M (E : Env) : Prop where
  is : Is E 200121 2 laws_markVersionSS_M_ac [(4, none)]
  c_laws_markVersionS_M : G_laws_markVersionS_M E
theorem laws_markVersionSS_M_E {E : Env} (h : G_laws_markVersionSS_M E) (xs0 : List U) (a1 : U) : E 200121 (.agg [.tup [.sl 1 xs0]] :: [a1]) =
 laws_markVersionSS_M_l0 E a1 (.int .i64 0) xs0 := (h.is _ rfl).trans ((runQ_M rfl).trans (by kernel_rfl))
end Go.Proofs.Ytfdcdbkblkehcaa.Am
namespace Go.Proofs.Ytfdcdbkblkehcaa.Am
open Go
set_option linter.unusedVariables false
set_option maxRecDepth 100000
def laws_FnExactNewNode_i0_i0_r0 : AC :=
 (.region 0 [⟨some 47, .mv (.t 54), none⟩])
def laws_FnExactNewNode_i0_r0 : AC :=
 (.region 0 [⟨some 37, .mv (.t 44), none⟩])
def laws_FnExactNewNode_r0 : AC :=
 (.region 0 [⟨some 3, .mv (.t 14), none⟩])
def laws_FnExactNewNode_ac : AC :=
 (.seq (.region 0 [⟨some 0, .mv (.c (.bool false)), none⟩])
 (.seq (.region 0 [⟨some 6, .call false 310 [], none⟩,
  ⟨some 1, .alloc 1 (.agg [(.agg [(.bool false), (.agg [(.nsl 1)]), (.nsl 9), (.nsl 2), (.nsl 2), (.int .i64 0)]), (.str ⟨#[]⟩)]), none⟩,
  ⟨none, .store 7 (.t 1) (.t 6), none⟩])
 (.seq (.region 0 [⟨some 7, .callF 7 false [(.agg [(.agg [.bool, (.agg [(.sl 1)]), (.sl 9), (.sl 2), (.sl 2), .int]), (.flat false 1)])] 308 [], none⟩,
  ⟨some 2, .alloc 2 (.agg [(.agg [(.bool false), (.agg [(.nsl 1)]), (.nsl 9), (.nsl 2), (.nsl 2), (.int .i64 0)]), (.str ⟨#[]⟩)]), none⟩,
  ⟨none, .storeM 3000 7 (.t 2) (.t 7), none⟩])
 (.seq (.seq (.region 0 [⟨some 8, .loadO (.agg [(.agg [.bool, (.agg [(.sl 1)]), (.sl 9), (.sl 2), (.sl 2), .int]), (.flat false 1)]) (.t 2), none⟩,
  ⟨some 9, .load true 7 (.t 1), none⟩,
  ⟨some 10, .call false 260 [(.t 8), (.t 9)], none⟩,
  ⟨some 11, .un .not (.t 10), none⟩])
 (.cond (.t 11) (.seq (.region 0 [⟨some 0, .mv (.c (.bool false)), none⟩])
 .ret) .skip))
 (.seq (.region 0 [⟨some 3, .mv (.c (.int .i64 1)), none⟩])
 (.seq (.regI 0 [⟨some 12, .loadO (.agg [(.agg [.bool, (.agg [(.sl 1)]), (.sl 9), (.sl 2), (.sl 2), .int]), (.flat false 1)]) (.t 2), none⟩,
  ⟨some 13, .mv (.t 3), none⟩] ⟨some 14, 36, 10, 309, [(.t 12), (.t 13)], [4]⟩ (.seq (.region 0 [⟨some 38, .boxS 38 (.t 36), none⟩,
  ⟨some 40, .mv (.c (.int .i64 0)), none⟩])
 (.seq (.regI 0 [⟨some 41, .faddr 0 0 (.t 38), none⟩,
  ⟨some 42, .loadO (.agg [.bool, (.agg [(.sl 1)]), (.sl 9), (.sl 2), (.sl 2), .int]) (.t 41), none⟩,
  ⟨some 43, .mv (.t 37), none⟩] ⟨some 44, 46, 22, 315, [(.t 42), (.t 43)], [4]⟩ (.seq (.region 0 [⟨some 48, .boxS 48 (.t 46), none⟩,
  ⟨some 50, .mv (.c (.int .i64 0)), none⟩])
 (.seq (.regI 0 [⟨some 51, .faddr 1 1 (.t 48), none⟩,
  ⟨some 52, .loadO (.agg [(.sl 1)]) (.t 51), none⟩,
  ⟨some 53, .mv (.t 47), none⟩] ⟨some 54, 68, 10, 96, [(.t 52), (.t 53)], [4]⟩ (.seq (.region 0 [⟨some 70, .boxS 70 (.t 68), none⟩,
  ⟨some 72, .mv (.c (.int .i64 0)), none⟩])
 (.seq (.region 0 [⟨some 73, .faddr 0 0 (.t 70), none⟩,
  ⟨some 74, .load false 1 (.t 73), none⟩,
  ⟨some 75, .mv (.t 69), none⟩,
  ⟨some 76, .callM 1 121 (.t 74) [(.t 75)], none⟩,
  ⟨some 69, .mv (.t 76), none⟩])
 (.seq (.region 0 [⟨some 77, .mv (.t 69), none⟩,
  ⟨some 72, .mv (.t 77), none⟩])
 .ret))) laws_FnExactNewNode_i0_i0_r0)
 (.seq (.region 0 [⟨some 55, .faddr 2 2 (.t 48), none⟩,
  ⟨some 56, .load false 1 (.t 55), none⟩,
  ⟨some 57, .mv (.t 47), none⟩,
  ⟨some 58, .callM 9 318 (.t 56) [(.t 57)], none⟩,
  ⟨some 47, .mv (.t 58), none⟩])
 (.seq (.region 0 [⟨some 59, .faddr 3 3 (.t 48), none⟩,
  ⟨some 60, .load false 1 (.t 59), none⟩,
  ⟨some 61, .mv (.t 47), none⟩,
  ⟨some 62, .callM 2 317 (.t 60) [(.t 61)], none⟩,
  ⟨some 47, .mv (.t 62), none⟩])
 (.seq (.region 0 [⟨some 63, .faddr 4 4 (.t 48), none⟩,
  ⟨some 64, .load false 1 (.t 63), none⟩,
  ⟨some 65, .mv (.t 47), none⟩,
  ⟨some 66, .callM 2 316 (.t 64) [(.t 65)], none⟩,
  ⟨some 47, .mv (.t 66), none⟩])
 (.seq (.region 0 [⟨some 67, .mv (.t 47), none⟩,
  ⟨some 50, .mv (.t 67), none⟩])
 .ret)))))) laws_FnExactNewNode_i0_r0)
 (.seq (.region 0 [⟨some 45, .mv (.t 37), none⟩,
  ⟨some 40, .mv (.t 45), none⟩])
 .ret))) laws_FnExactNewNode_r0)
 (.seq (.region 0 [⟨some 4, .mv (.c (.int .i64 1)), none⟩])
 (.seq (.region 0 [⟨some 15, .loadO (.agg [(.agg [.bool, (.agg [(.sl 1)]), (.sl 9), (.sl 2), (.sl 2), .int]), (.flat false 1)]) (.t 2), none⟩,
  ⟨some 16, .mv (.t 4), none⟩,
  ⟨some 17, .call false 307 [(.t 15), (.t 16)], none⟩,
  ⟨some 4, .mv (.t 17), none⟩])
 (.seq (.seq (.region 0 [⟨some 18, .mv (.t 4), none⟩,
  ⟨some 19, .bin .lss (.t 18) (.c (.int .i64 0)), none⟩])
 (.cond (.t 19) (.seq (.region 0 [⟨some 0, .mv (.c (.bool false)), none⟩])
 .ret) .skip))
 (.seq (.seq (.region 0 [⟨some 20, .mv (.t 4), none⟩,
  ⟨some 21, .mv (.t 3), none⟩,
  ⟨some 22, .bin .neq (.t 20) (.t 21), none⟩])
 (.cond (.t 22) (.seq (.region 0 [⟨some 0, .mv (.c (.bool false)), none⟩])
 .ret) .skip))
 (.seq (.region 0 [⟨some 23, .call false 308 [], none⟩,
  ⟨some 5, .alloc 5 (.agg [(.agg [(.bool false), (.agg [(.nsl 1)]), (.nsl 9), (.nsl 2), (.nsl 2), (.int .i64 0)]), (.str ⟨#[]⟩)]), none⟩,
  ⟨none, .store 7 (.t 5) (.t 23), none⟩])
 (.seq (.seq (.region 0 [⟨some 24, .load true 7 (.t 5), none⟩,
  ⟨some 25, .load true 7 (.t 1), none⟩,
  ⟨some 26, .call false 260 [(.t 24), (.t 25)], none⟩,
  ⟨some 27, .un .not (.t 26), none⟩])
 (.cond (.t 27) (.seq (.region 0 [⟨some 0, .mv (.c (.bool false)), none⟩])
 .ret) .skip))
 (.seq (.region 0 [⟨some 4, .mv (.c (.int .i64 1)), none⟩])
 (.seq (.region 0 [⟨some 28, .loadO (.agg [(.agg [.bool, (.agg [(.sl 1)]), (.sl 9), (.sl 2), (.sl 2), .int]), (.flat false 1)]) (.t 2), none⟩,
  ⟨some 29, .mv (.t 4), none⟩,
  ⟨some 30, .call false 307 [(.t 28), (.t 29)], none⟩,
  ⟨some 4, .mv (.t 30), none⟩])
 (.seq (.seq (.region 0 [⟨some 31, .mv (.t 4), none⟩,
  ⟨some 32, .bin .lss (.t 31) (.c (.int .i64 0)), none⟩])
 (.cond (.t 32) (.seq (.region 0 [⟨some 0, .mv (.c (.bool false)), none⟩])
 .ret) .skip))
 (.seq (.seq (.region 0 [⟨some 33, .mv (.t 4), none⟩,
  ⟨some 34, .mv (.t 3), none⟩,
  ⟨some 35, .bin .neq (.t 33) (.t 34), none⟩])
 (.cond (.t 35) (.seq (.region 0 [⟨some 0, .mv (.c (.bool false)), none⟩])
 .ret) .skip))
 (.seq (.region 0 [⟨some 0, .mv (.c (.bool true)), none⟩])
 .ret)))))))))))))))))
structure G_laws_FnExactNewNode (E : Env) : Prop where
  is : Is E 306 0 laws_FnExactNewNode_ac [(0, none)]
  c_spec_NewNode : G_spec_NewNode E
  c_impl_NewNode : G_impl_NewNode E
  c_laws_eqNode : G_laws_eqNode E
  c_laws_heldNode : G_laws_heldNode E
  c_impl_NewNode_F : G_impl_NewNode_F E
  c_laws_markTransactionS_M : G_laws_markTransactionS_M E
  c_laws_markLockS_M : G_laws_markLockS_M E
  c_laws_markWaitS_M : G_laws_markWaitS_M E
  c_laws_markVersionSS_M : G_laws_markVersionSS_M E
theorem laws_FnExactNewNode_E {E : Env} (h : G_laws_FnExactNewNode E) : E 306 [] =
 (E 310 []).bind fun t1 => if storable (.val t1) = true ∧ t1.size = 7 then (E 100308 []).bind fun t2 => U.noTup t2 fun x3 => U.asAgg x3 fun us4 => (match us4 with
 | u5 :: us6 => (U.asAgg u5 fun us7 => (match us7 with
 | u8 :: us9 => (U.asB u8 fun b10 => (match us9 with
 | u11 :: us12 => (U.asAgg u11 fun us13 => (match us13 with
 | u14 :: us15 => (U.asSlK 1 u14 fun us16 => (match us15 with
 | [] => ((match us12 with
 | u17 :: us18 => (U.asSlK 9 u17 fun us19 => (match us18 with
 | u20 :: us21 => (U.asSlK 2 u20 fun us22 => (match us21 with
 | u23 :: us24 => (U.asSlK 2 u23 fun us25 => (match us24 with
 | u26 :: us27 => (U.asInt u26 fun n28 => (match us27 with
 | [] => ((match us6 with
 | u29 :: us30 => (U.asVar false 1 u29 fun e31 => if (e31 : U).flat = true then (match us30 with
 | [] => (U.noTup e31 fun x32 => if (.agg [.agg [.val (.bool b10), .agg [.own (.sl 1 us16)], .own (.sl 9 us19), .own (.sl 2 us22), .own (.sl 2 us25), .val (.int .i64 n28)], .val x32] : D).size = 7 then U.asVar false 1 x32 fun e33 => U.asVar true 7 t1 fun e34 => (E 260 [(.agg [(.agg [(.bool b10), (.agg [(.sl 1 us16)]), (.sl 9 us19), (.sl 2 us22), (.sl 2 us25), (.int .i64 n28)]), e33]), e34]).bind fun t35 => U.asFlat t35 fun t36 => (U.un .not t36).bind fun t37 => U.asBool t37
 (some (.bool false))
 (U.asVar false 1 x32 fun e38 => if 1 = 1 then if 9 = 9 then if 2 = 2 then if 2 = 2 then if 1 = 1 then (E 200121 (.agg [.tup [.sl 1 us16]] :: [(.int .i64 1)])).bind fun t39 => U.asMut 1 t39 fun y40 ys41 => U.asFlat y40 fun y40 => if partable (.val y40) = true then (E 200318 (.agg [.tup [.sl 9 us19]] :: [y40])).bind fun t42 => U.asMut 9 t42 fun y43 ys44 => U.asFlat y43 fun y43 => (E 200317 (.agg [.tup [.sl 2 us22]] :: [y43])).bind fun t45 => U.asMut 2 t45 fun y46 ys47 => U.asFlat y46 fun y46 => (E 200316 (.agg [.tup [.sl 2 us25]] :: [y46])).bind fun t48 => U.asMut 2 t48 fun y49 ys50 => U.asFlat y49 fun y49 => if partable (.val y49) = true then if partable (.val y49) = true then U.asVar false 1 x32 fun e51 => (E 307 [(.agg [(.agg [(.bool b10), (.agg [(.sl 1 ys41)]), (.sl 9 ys44), (.sl 2 ys47), (.sl 2 ys50), (.int .i64 n28)]), e51]), (.int .i64 1)]).bind fun t52 => U.asFlat t52 fun t53 => (U.bin .lss t53 (.int .i64 0)).bind fun t54 => U.asBool t54
 (some (.bool false))
 ((U.bin .neq t53 y49).bind fun t55 => U.asBool t55
 (some (.bool false))
 ((E 308 []).bind fun t56 => if storable (.val t56) = true ∧ t56.size = 7 then U.asVar true 7 t56 fun e57 => U.asVar true 7 t1 fun e58 => (E 260 [e57, e58]).bind fun t59 => (U.un .not t59).bind fun t60 => U.asBool t60
 (some (.bool false))
 (U.asVar false 1 x32 fun e61 => (E 307 [(.agg [(.agg [(.bool b10), (.agg [(.sl 1 ys41)]), (.sl 9 ys44), (.sl 2 ys47), (.sl 2 ys50), (.int .i64 n28)]), e61]), (.int .i64 1)]).bind fun t62 => U.asFlat t62 fun t63 => (U.bin .lss t63 (.int .i64 0)).bind fun t64 => U.asBool t64
 (some (.bool false))
 ((U.bin .neq t63 y49).bind fun t65 => U.asBool t65
 (some (.bool false))
 (some (.bool true)))) else none)) else none else none else none else none else none else none else none else none) else none)
 | _ => none) else none)
 | [] => none))
 | _ => none))
 | [] => none))
 | [] => none))
 | [] => none))
 | [] => none))
 | _ => none))
 | [] => none))
 | [] => none))
 | [] => none))
 | [] => none) else none := (h.is _ rfl).trans ((runQ_V rfl).trans (by kernel_rfl))
end Go.Proofs.Ytfdcdbkblkehcaa.Am
