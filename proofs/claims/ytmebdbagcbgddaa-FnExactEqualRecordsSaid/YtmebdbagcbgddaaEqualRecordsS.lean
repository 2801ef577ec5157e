import Derived.Test.YtmebdbagcbgddaaChecked
import Derived.KernelRfl
import Derived.Test.YtmebdbagcbgddaaAmW
import Derived.Test.YtmebdbagcbgddaaEqualRecordsF0
namespace Go.Proofs.Ytmebdbagcbgddaa.Am.FnExactEqualRecords
open Go Go.Proofs
set_option linter.unusedVariables false
set_option maxRecDepth 100000

/-- Which function of the program each number names. -/
def rho (m : Nat) : FuncId := match [(17, 6), (18, 26), (19, 28), (20, 27), (21, 25), (22, 24), (23, 70), (24, 69), (25, 72), (26, 71), (27, 74), (28, 73), (29, 103), (30, 104), (31, 75), (32, 76), (33, 77), (34, 56), (35, 98), (36, 105)].lookup m with | some f => f | none => 0
theorem laws_szReadMarkS_match : matchFn Try.prog rho 24 2 laws_szReadMarkS_ac [(4, none)] = true := by kernel_rfl
theorem laws_szWriteS_match : matchFn Try.prog rho 23 2 laws_szWriteS_ac [(4, none)] = true := by kernel_rfl
theorem laws_szLogRecord_match : matchFn Try.prog rho 22 2 laws_szLogRecord_ac [(4, none)] = true := by kernel_rfl
theorem spec_EqualTransactions_match : matchFn Try.prog rho 26 2 spec_EqualTransactions_ac [(4, none)] = true := by kernel_rfl
theorem spec_l28Tx_match : matchFn Try.prog rho 25 1 spec_l28Tx_ac [(2, some (true, 9))] = true := by kernel_rfl
theorem spec_EqualRecords_match : matchFn Try.prog rho 21 2 spec_EqualRecords_ac [(4, none)] = true := by kernel_rfl
theorem laws_toReadMark_match : matchFn Try.prog rho 29 1 laws_toReadMark_ac [(2, some (true, 2))] = true := by kernel_rfl
theorem laws_toReadMarkS_match : matchFn Try.prog rho 28 1 laws_toReadMarkS_ac [(2, none)] = true := by kernel_rfl
theorem laws_toWrite_match : matchFn Try.prog rho 30 1 laws_toWrite_ac [(2, some (true, 2))] = true := by kernel_rfl
theorem laws_toWriteS_match : matchFn Try.prog rho 27 1 laws_toWriteS_ac [(2, none)] = true := by kernel_rfl
theorem laws_toLogRecord_match : matchFn Try.prog rho 18 1 laws_toLogRecord_ac [(2, some (true, 6))] = true := by kernel_rfl
theorem slices_Equal_g31_match : matchFn Try.prog rho 31 2 slices_Equal_g31_ac [(4, none)] = true := by kernel_rfl
theorem slices_Equal_g32_match : matchFn Try.prog rho 32 2 slices_Equal_g32_ac [(4, none)] = true := by kernel_rfl
theorem impl_EqualRecords_match : matchFn Try.prog rho 20 2 impl_EqualRecords_ac [(4, none)] = true := by kernel_rfl
theorem laws_eqReadMark_match : matchFn Try.prog rho 35 2 laws_eqReadMark_ac [(4, none)] = true := by kernel_rfl
theorem laws_eqReadMarkS_match : matchFn Try.prog rho 34 2 laws_eqReadMarkS_ac [(4, none)] = true := by kernel_rfl
theorem laws_eqWrite_match : matchFn Try.prog rho 36 2 laws_eqWrite_ac [(4, none)] = true := by kernel_rfl
theorem laws_eqWriteS_match : matchFn Try.prog rho 33 2 laws_eqWriteS_ac [(4, none)] = true := by kernel_rfl
theorem laws_eqLogRecord_match : matchFn Try.prog rho 19 2 laws_eqLogRecord_ac [(4, none)] = true := by kernel_rfl
theorem laws_FnExactEqualRecords_match : matchFn Try.prog rho 17 2 laws_FnExactEqualRecords_ac [(4, none)] = true := by kernel_rfl
def tbl : List (Nat × Fn) := [(24, ⟨2, laws_szReadMarkS_ac, [(4, none)]⟩),
  (23, ⟨2, laws_szWriteS_ac, [(4, none)]⟩),
  (22, ⟨2, laws_szLogRecord_ac, [(4, none)]⟩),
  (26, ⟨2, spec_EqualTransactions_ac, [(4, none)]⟩),
  (25, ⟨1, spec_l28Tx_ac, [(2, some (true, 9))]⟩),
  (21, ⟨2, spec_EqualRecords_ac, [(4, none)]⟩),
  (29, ⟨1, laws_toReadMark_ac, [(2, some (true, 2))]⟩),
  (28, ⟨1, laws_toReadMarkS_ac, [(2, none)]⟩),
  (30, ⟨1, laws_toWrite_ac, [(2, some (true, 2))]⟩),
  (27, ⟨1, laws_toWriteS_ac, [(2, none)]⟩),
  (18, ⟨1, laws_toLogRecord_ac, [(2, some (true, 6))]⟩),
  (31, ⟨2, slices_Equal_g31_ac, [(4, none)]⟩),
  (32, ⟨2, slices_Equal_g32_ac, [(4, none)]⟩),
  (20, ⟨2, impl_EqualRecords_ac, [(4, none)]⟩),
  (35, ⟨2, laws_eqReadMark_ac, [(4, none)]⟩),
  (34, ⟨2, laws_eqReadMarkS_ac, [(4, none)]⟩),
  (36, ⟨2, laws_eqWrite_ac, [(4, none)]⟩),
  (33, ⟨2, laws_eqWriteS_ac, [(4, none)]⟩),
  (19, ⟨2, laws_eqLogRecord_ac, [(4, none)]⟩),
  (17, ⟨2, laws_FnExactEqualRecords_ac, [(4, none)]⟩)]
theorem tbl_all : AllMatch Try.prog rho tbl := ⟨laws_szReadMarkS_match, laws_szWriteS_match, laws_szLogRecord_match, spec_EqualTransactions_match, spec_l28Tx_match, spec_EqualRecords_match, laws_toReadMark_match, laws_toReadMarkS_match, laws_toWrite_match, laws_toWriteS_match, laws_toLogRecord_match, slices_Equal_g31_match, slices_Equal_g32_match, impl_EqualRecords_match, laws_eqReadMark_match, laws_eqReadMarkS_match, laws_eqWrite_match, laws_eqWriteS_match, laws_eqLogRecord_match, laws_FnExactEqualRecords_match, trivial⟩
noncomputable abbrev Ev : Env := EnvW (look tbl)
theorem good : Good Try.prog rho Ev := good_W (tbl_ok tbl_all) (by kernel_rfl)
theorem g_laws_szReadMarkS : G_laws_szReadMarkS Ev := ⟨is_W rfl⟩
theorem g_laws_szWriteS : G_laws_szWriteS Ev := ⟨is_W rfl⟩
theorem g_laws_szLogRecord : G_laws_szLogRecord Ev := ⟨is_W rfl, g_laws_szReadMarkS, g_laws_szWriteS⟩
theorem g_spec_EqualTransactions : G_spec_EqualTransactions Ev := ⟨is_W rfl⟩
theorem g_spec_l28Tx : G_spec_l28Tx Ev := ⟨is_W rfl⟩
theorem g_spec_EqualRecords : G_spec_EqualRecords Ev := ⟨is_W rfl, g_spec_EqualTransactions, g_spec_l28Tx⟩
theorem g_laws_toReadMark : G_laws_toReadMark Ev := ⟨is_W rfl⟩
theorem g_laws_toReadMarkS : G_laws_toReadMarkS Ev := ⟨is_W rfl, g_laws_toReadMark⟩
theorem g_laws_toWrite : G_laws_toWrite Ev := ⟨is_W rfl⟩
theorem g_laws_toWriteS : G_laws_toWriteS Ev := ⟨is_W rfl, g_laws_toWrite⟩
theorem g_laws_toLogRecord : G_laws_toLogRecord Ev := ⟨is_W rfl, g_laws_toReadMarkS, g_laws_toWriteS⟩
theorem g_slices_Equal_g31 : G_slices_Equal_g31 Ev := ⟨is_W rfl⟩
theorem g_slices_Equal_g32 : G_slices_Equal_g32 Ev := ⟨is_W rfl⟩
theorem g_impl_EqualRecords : G_impl_EqualRecords Ev := ⟨is_W rfl, g_slices_Equal_g31, g_slices_Equal_g32⟩
theorem g_laws_eqReadMark : G_laws_eqReadMark Ev := ⟨is_W rfl⟩
theorem g_laws_eqReadMarkS : G_laws_eqReadMarkS Ev := ⟨is_W rfl, g_laws_eqReadMark⟩
theorem g_laws_eqWrite : G_laws_eqWrite Ev := ⟨is_W rfl⟩
theorem g_laws_eqWriteS : G_laws_eqWriteS Ev := ⟨is_W rfl, g_laws_eqWrite⟩
theorem g_laws_eqLogRecord : G_laws_eqLogRecord Ev := ⟨is_W rfl, g_laws_eqReadMarkS, g_laws_eqWriteS⟩
theorem g_laws_FnExactEqualRecords : G_laws_FnExactEqualRecords Ev := ⟨is_W rfl, g_laws_szLogRecord, g_spec_EqualRecords, g_laws_toLogRecord, g_impl_EqualRecords, g_laws_eqLogRecord⟩
end Go.Proofs.Ytmebdbagcbgddaa.Am.FnExactEqualRecords
