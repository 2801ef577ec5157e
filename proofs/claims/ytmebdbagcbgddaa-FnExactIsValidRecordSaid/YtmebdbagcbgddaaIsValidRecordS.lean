import Derived.Test.YtmebdbagcbgddaaChecked
import Derived.KernelRfl
import Derived.Test.YtmebdbagcbgddaaAmW
import Derived.Test.YtmebdbagcbgddaaIsValidRecordF0
namespace Go.Proofs.Ytmebdbagcbgddaa.Am.FnExactIsValidRecord
open Go Go.Proofs
set_option linter.unusedVariables false
set_option maxRecDepth 100000

/-- Which function of the program each number names. -/
def rho (m : Nat) : FuncId := match [(6, 61), (9, 65), (10, 62), (11, 66), (13, 102), (14, 101), (15, 122), (18, 26), (19, 28), (22, 24), (23, 70), (24, 69), (25, 72), (27, 74), (28, 73), (29, 103), (30, 104), (33, 77), (34, 56), (35, 98), (36, 105), (67, 10), (68, 41), (69, 40), (70, 87), (71, 111), (72, 88), (73, 89), (74, 90), (75, 112), (76, 113)].lookup m with | some f => f | none => 0
theorem laws_szReadMarkS_match : matchFn Try.prog rho 24 2 laws_szReadMarkS_ac [(4, none)] = true := by kernel_rfl
theorem laws_szWriteS_match : matchFn Try.prog rho 23 2 laws_szWriteS_ac [(4, none)] = true := by kernel_rfl
theorem laws_szLogRecord_match : matchFn Try.prog rho 22 2 laws_szLogRecord_ac [(4, none)] = true := by kernel_rfl
theorem laws_toReadMark_match : matchFn Try.prog rho 29 1 laws_toReadMark_ac [(2, some (true, 2))] = true := by kernel_rfl
theorem laws_toReadMarkS_match : matchFn Try.prog rho 28 1 laws_toReadMarkS_ac [(2, none)] = true := by kernel_rfl
theorem laws_toWrite_match : matchFn Try.prog rho 30 1 laws_toWrite_ac [(2, some (true, 2))] = true := by kernel_rfl
theorem laws_toWriteS_match : matchFn Try.prog rho 27 1 laws_toWriteS_ac [(2, none)] = true := by kernel_rfl
theorem laws_toLogRecord_match : matchFn Try.prog rho 18 1 laws_toLogRecord_ac [(2, some (true, 6))] = true := by kernel_rfl
theorem laws_eqReadMark_match : matchFn Try.prog rho 35 2 laws_eqReadMark_ac [(4, none)] = true := by kernel_rfl
theorem laws_eqReadMarkS_match : matchFn Try.prog rho 34 2 laws_eqReadMarkS_ac [(4, none)] = true := by kernel_rfl
theorem laws_eqWrite_match : matchFn Try.prog rho 36 2 laws_eqWrite_ac [(4, none)] = true := by kernel_rfl
theorem laws_eqWriteS_match : matchFn Try.prog rho 33 2 laws_eqWriteS_ac [(4, none)] = true := by kernel_rfl
theorem laws_eqLogRecord_match : matchFn Try.prog rho 19 2 laws_eqLogRecord_ac [(4, none)] = true := by kernel_rfl
theorem spec_l1In_match : matchFn Try.prog rho 6 3 spec_l1In_ac [(6, none)] = true := by kernel_rfl
theorem spec_l28Tx_match : matchFn Try.prog rho 25 1 spec_l28Tx_ac [(2, some (true, 9))] = true := by kernel_rfl
theorem spec_l5Before_match : matchFn Try.prog rho 71 2 spec_l5Before_ac [(4, none)] = true := by kernel_rfl
theorem spec_IsValidTransaction_match : matchFn Try.prog rho 70 1 spec_IsValidTransaction_ac [(2, none)] = true := by kernel_rfl
theorem spec_IsValidRecord_match : matchFn Try.prog rho 69 1 spec_IsValidRecord_ac [(2, none)] = true := by kernel_rfl
theorem impl_in_match : matchFn Try.prog rho 10 3 impl_in_ac [(6, none)] = true := by kernel_rfl
theorem impl_isID_match : matchFn Try.prog rho 9 1 impl_isID_ac [(2, none)] = true := by kernel_rfl
theorem impl_IsStamp_match : matchFn Try.prog rho 72 1 impl_IsStamp_ac [(2, none)] = true := by kernel_rfl
theorem impl_isKey_match : matchFn Try.prog rho 11 1 impl_isKey_ac [(2, none)] = true := by kernel_rfl
theorem cmp_Or_g14_match : matchFn Try.prog rho 14 1 cmp_Or_g14_ac [(2, none)] = true := by kernel_rfl
theorem cmp_isNaN_g15_match : matchFn Try.prog rho 15 1 cmp_isNaN_g15_ac [(2, none)] = true := by kernel_rfl
theorem cmp_Compare_g13_match : matchFn Try.prog rho 13 2 cmp_Compare_g13_ac [(4, none)] = true := by kernel_rfl
theorem impl_compareMarks_match : matchFn Try.prog rho 75 2 impl_compareMarks_ac [(4, none)] = true := by kernel_rfl
theorem impl_areReads_match : matchFn Try.prog rho 73 1 impl_areReads_ac [(2, none)] = true := by kernel_rfl
theorem impl_isValue_match : matchFn Try.prog rho 76 1 impl_isValue_ac [(2, none)] = true := by kernel_rfl
theorem impl_areWrites_match : matchFn Try.prog rho 74 1 impl_areWrites_ac [(2, none)] = true := by kernel_rfl
theorem impl_IsValidRecord_match : matchFn Try.prog rho 68 1 impl_IsValidRecord_ac [(2, none)] = true := by kernel_rfl
theorem laws_FnExactIsValidRecord_match : matchFn Try.prog rho 67 1 laws_FnExactIsValidRecord_ac [(2, none)] = true := by kernel_rfl
def tbl : List (Nat × Fn) := [(24, ⟨2, laws_szReadMarkS_ac, [(4, none)]⟩),
  (23, ⟨2, laws_szWriteS_ac, [(4, none)]⟩),
  (22, ⟨2, laws_szLogRecord_ac, [(4, none)]⟩),
  (29, ⟨1, laws_toReadMark_ac, [(2, some (true, 2))]⟩),
  (28, ⟨1, laws_toReadMarkS_ac, [(2, none)]⟩),
  (30, ⟨1, laws_toWrite_ac, [(2, some (true, 2))]⟩),
  (27, ⟨1, laws_toWriteS_ac, [(2, none)]⟩),
  (18, ⟨1, laws_toLogRecord_ac, [(2, some (true, 6))]⟩),
  (35, ⟨2, laws_eqReadMark_ac, [(4, none)]⟩),
  (34, ⟨2, laws_eqReadMarkS_ac, [(4, none)]⟩),
  (36, ⟨2, laws_eqWrite_ac, [(4, none)]⟩),
  (33, ⟨2, laws_eqWriteS_ac, [(4, none)]⟩),
  (19, ⟨2, laws_eqLogRecord_ac, [(4, none)]⟩),
  (6, ⟨3, spec_l1In_ac, [(6, none)]⟩),
  (25, ⟨1, spec_l28Tx_ac, [(2, some (true, 9))]⟩),
  (71, ⟨2, spec_l5Before_ac, [(4, none)]⟩),
  (70, ⟨1, spec_IsValidTransaction_ac, [(2, none)]⟩),
  (69, ⟨1, spec_IsValidRecord_ac, [(2, none)]⟩),
  (10, ⟨3, impl_in_ac, [(6, none)]⟩),
  (9, ⟨1, impl_isID_ac, [(2, none)]⟩),
  (72, ⟨1, impl_IsStamp_ac, [(2, none)]⟩),
  (11, ⟨1, impl_isKey_ac, [(2, none)]⟩),
  (14, ⟨1, cmp_Or_g14_ac, [(2, none)]⟩),
  (15, ⟨1, cmp_isNaN_g15_ac, [(2, none)]⟩),
  (13, ⟨2, cmp_Compare_g13_ac, [(4, none)]⟩),
  (75, ⟨2, impl_compareMarks_ac, [(4, none)]⟩),
  (73, ⟨1, impl_areReads_ac, [(2, none)]⟩),
  (76, ⟨1, impl_isValue_ac, [(2, none)]⟩),
  (74, ⟨1, impl_areWrites_ac, [(2, none)]⟩),
  (68, ⟨1, impl_IsValidRecord_ac, [(2, none)]⟩),
  (67, ⟨1, laws_FnExactIsValidRecord_ac, [(2, none)]⟩)]
theorem tbl_all : AllMatch Try.prog rho tbl := ⟨laws_szReadMarkS_match, laws_szWriteS_match, laws_szLogRecord_match, laws_toReadMark_match, laws_toReadMarkS_match, laws_toWrite_match, laws_toWriteS_match, laws_toLogRecord_match, laws_eqReadMark_match, laws_eqReadMarkS_match, laws_eqWrite_match, laws_eqWriteS_match, laws_eqLogRecord_match, spec_l1In_match, spec_l28Tx_match, spec_l5Before_match, spec_IsValidTransaction_match, spec_IsValidRecord_match, impl_in_match, impl_isID_match, impl_IsStamp_match, impl_isKey_match, cmp_Or_g14_match, cmp_isNaN_g15_match, cmp_Compare_g13_match, impl_compareMarks_match, impl_areReads_match, impl_isValue_match, impl_areWrites_match, impl_IsValidRecord_match, laws_FnExactIsValidRecord_match, trivial⟩
noncomputable abbrev Ev : Env := EnvW (look tbl)
theorem good : Good Try.prog rho Ev := good_W (tbl_ok tbl_all) (by kernel_rfl)
theorem g_laws_szReadMarkS : G_laws_szReadMarkS Ev := ⟨is_W rfl⟩
theorem g_laws_szWriteS : G_laws_szWriteS Ev := ⟨is_W rfl⟩
theorem g_laws_szLogRecord : G_laws_szLogRecord Ev := ⟨is_W rfl, g_laws_szReadMarkS, g_laws_szWriteS⟩
theorem g_laws_toReadMark : G_laws_toReadMark Ev := ⟨is_W rfl⟩
theorem g_laws_toReadMarkS : G_laws_toReadMarkS Ev := ⟨is_W rfl, g_laws_toReadMark⟩
theorem g_laws_toWrite : G_laws_toWrite Ev := ⟨is_W rfl⟩
theorem g_laws_toWriteS : G_laws_toWriteS Ev := ⟨is_W rfl, g_laws_toWrite⟩
theorem g_laws_toLogRecord : G_laws_toLogRecord Ev := ⟨is_W rfl, g_laws_toReadMarkS, g_laws_toWriteS⟩
theorem g_laws_eqReadMark : G_laws_eqReadMark Ev := ⟨is_W rfl⟩
theorem g_laws_eqReadMarkS : G_laws_eqReadMarkS Ev := ⟨is_W rfl, g_laws_eqReadMark⟩
theorem g_laws_eqWrite : G_laws_eqWrite Ev := ⟨is_W rfl⟩
theorem g_laws_eqWriteS : G_laws_eqWriteS Ev := ⟨is_W rfl, g_laws_eqWrite⟩
theorem g_laws_eqLogRecord : G_laws_eqLogRecord Ev := ⟨is_W rfl, g_laws_eqReadMarkS, g_laws_eqWriteS⟩
theorem g_spec_l1In : G_spec_l1In Ev := ⟨is_W rfl⟩
theorem g_spec_l28Tx : G_spec_l28Tx Ev := ⟨is_W rfl⟩
theorem g_spec_l5Before : G_spec_l5Before Ev := ⟨is_W rfl⟩
theorem g_spec_IsValidTransaction : G_spec_IsValidTransaction Ev := ⟨is_W rfl, g_spec_l1In, g_spec_l5Before⟩
theorem g_spec_IsValidRecord : G_spec_IsValidRecord Ev := ⟨is_W rfl, g_spec_l1In, g_spec_l28Tx, g_spec_IsValidTransaction⟩
theorem g_impl_in : G_impl_in Ev := ⟨is_W rfl⟩
theorem g_impl_isID : G_impl_isID Ev := ⟨is_W rfl, g_impl_in⟩
theorem g_impl_IsStamp : G_impl_IsStamp Ev := ⟨is_W rfl, g_impl_in⟩
theorem g_impl_isKey : G_impl_isKey Ev := ⟨is_W rfl, g_impl_in⟩
theorem g_cmp_Or_g14 : G_cmp_Or_g14 Ev := ⟨is_W rfl⟩
theorem g_cmp_isNaN_g15 : G_cmp_isNaN_g15 Ev := ⟨is_W rfl⟩
theorem g_cmp_Compare_g13 : G_cmp_Compare_g13 Ev := ⟨is_W rfl, g_cmp_isNaN_g15⟩
theorem g_impl_compareMarks : G_impl_compareMarks Ev := ⟨is_W rfl, g_cmp_Or_g14, g_cmp_Compare_g13⟩
theorem g_impl_areReads : G_impl_areReads Ev := ⟨is_W rfl, g_impl_in, g_impl_isKey, g_impl_compareMarks⟩
theorem g_impl_isValue : G_impl_isValue Ev := ⟨is_W rfl, g_impl_in⟩
theorem g_impl_areWrites : G_impl_areWrites Ev := ⟨is_W rfl, g_impl_isKey, g_impl_isValue⟩
theorem g_impl_IsValidRecord : G_impl_IsValidRecord Ev := ⟨is_W rfl, g_impl_in, g_impl_isID, g_impl_IsStamp, g_impl_areReads, g_impl_areWrites⟩
theorem g_laws_FnExactIsValidRecord : G_laws_FnExactIsValidRecord Ev := ⟨is_W rfl, g_laws_szLogRecord, g_laws_toLogRecord, g_laws_eqLogRecord, g_spec_IsValidRecord, g_impl_IsValidRecord⟩
end Go.Proofs.Ytmebdbagcbgddaa.Am.FnExactIsValidRecord
