import Derived.Test.YtfdcdbkblkehcaaChecked
import Derived.KernelRfl
import Derived.Test.YtfdcdbkblkehcaaAmW
import Derived.Test.YtfdcdbkblkehcaaReplaySerialF0
import Derived.Test.YtfdcdbkblkehcaaReplaySerialF1
namespace Go.Proofs.Ytfdcdbkblkehcaa.Am.FnExactReplaySerial
open Go Go.Proofs
set_option linter.unusedVariables false
set_option maxRecDepth 100000

/-- Which function of the program each number names. -/
def rho (m : Nat) : FuncId := match [(6, 83), (9, 138), (10, 136), (11, 86), (13, 175), (14, 174), (15, 193), (23, 58), (24, 57), (27, 62), (28, 61), (29, 102), (30, 103), (33, 66), (34, 65), (35, 107), (36, 108), (42, 119), (43, 167), (45, 22), (46, 25), (49, 20), (50, 50), (51, 52), (52, 164), (53, 189), (54, 188), (55, 199), (56, 54), (58, 32), (59, 24), (70, 60), (71, 101), (72, 160), (73, 161), (74, 162), (75, 140), (76, 137), (90, 28), (162, 120), (163, 168), (239, 75), (240, 74), (241, 110), (242, 116), (243, 71), (244, 111), (245, 109), (246, 77), (247, 72), (248, 76), (249, 114), (250, 112), (251, 113), (252, 163), (253, 96), (254, 118), (255, 117), (256, 121), (280, 42), (283, 43), (305, 9), (392, 115), (393, 166), (394, 165), (100027, 62), (100028, 61), (100045, 22), (100051, 52), (100058, 32), (100246, 77), (100257, 73), (100283, 43), (200086, 27), (200095, 67), (200232, 68), (200287, 26)].lookup m with | some f => f | none => 0
theorem laws_szReadMarkS_match : matchFn Try.prog rho 24 2 laws_szReadMarkS_ac [(4, none)] = true := by kernel_rfl
theorem laws_szWriteS_match : matchFn Try.prog rho 23 2 laws_szWriteS_ac [(4, none)] = true := by kernel_rfl
theorem laws_szEntry_match : matchFn Try.prog rho 50 2 laws_szEntry_ac [(4, none)] = true := by kernel_rfl
theorem laws_szEntryS_match : matchFn Try.prog rho 49 2 laws_szEntryS_ac [(4, none)] = true := by kernel_rfl
theorem laws_toReadMark_match : matchFn Try.prog rho 29 1 laws_toReadMark_ac [(2, some (true, 2))] = true := by kernel_rfl
theorem laws_toReadMarkS_match : matchFn Try.prog rho 28 1 laws_toReadMarkS_ac [(2, none)] = true := by kernel_rfl
theorem laws_toWrite_match : matchFn Try.prog rho 30 1 laws_toWrite_ac [(2, some (true, 2))] = true := by kernel_rfl
theorem laws_toWriteS_match : matchFn Try.prog rho 27 1 laws_toWriteS_ac [(2, none)] = true := by kernel_rfl
theorem laws_toEntry_match : matchFn Try.prog rho 51 1 laws_toEntry_ac [(2, some (true, 4))] = true := by kernel_rfl
theorem laws_toEntryS_match : matchFn Try.prog rho 45 1 laws_toEntryS_ac [(2, none)] = true := by kernel_rfl
theorem laws_eqIntS_match : matchFn Try.prog rho 59 2 laws_eqIntS_ac [(4, none)] = true := by kernel_rfl
theorem laws_eqReadMark_match : matchFn Try.prog rho 35 2 laws_eqReadMark_ac [(4, none)] = true := by kernel_rfl
theorem laws_eqReadMarkS_match : matchFn Try.prog rho 34 2 laws_eqReadMarkS_ac [(4, none)] = true := by kernel_rfl
theorem laws_eqWrite_match : matchFn Try.prog rho 36 2 laws_eqWrite_ac [(4, none)] = true := by kernel_rfl
theorem laws_eqWriteS_match : matchFn Try.prog rho 33 2 laws_eqWriteS_ac [(4, none)] = true := by kernel_rfl
theorem laws_eqEntry_match : matchFn Try.prog rho 56 2 laws_eqEntry_ac [(4, none)] = true := by kernel_rfl
theorem laws_eqEntryS_match : matchFn Try.prog rho 46 2 laws_eqEntryS_ac [(4, none)] = true := by kernel_rfl
theorem laws_heldIntS_match : matchFn Try.prog rho 90 2 laws_heldIntS_ac [(4, none)] = true := by kernel_rfl
theorem laws_toIntS_match : matchFn Try.prog rho 58 1 laws_toIntS_ac [(2, none)] = true := by kernel_rfl
theorem spec_l1In_match : matchFn Try.prog rho 6 3 spec_l1In_ac [(6, none)] = true := by kernel_rfl
theorem spec_l5Before_match : matchFn Try.prog rho 71 2 spec_l5Before_ac [(4, none)] = true := by kernel_rfl
theorem spec_IsValidTransaction_match : matchFn Try.prog rho 70 1 spec_IsValidTransaction_ac [(2, none)] = true := by kernel_rfl
theorem spec_l18Tx_match : matchFn Try.prog rho 245 1 spec_l18Tx_ac [(2, some (true, 9))] = true := by kernel_rfl
theorem spec_FindEntry_match : matchFn Try.prog rho 241 2 spec_FindEntry_ac [(4, none)] = true := by kernel_rfl
theorem spec_WriterOf_match : matchFn Try.prog rho 244 2 spec_WriterOf_ac [(4, none)] = true := by kernel_rfl
theorem spec_IsHistory_match : matchFn Try.prog rho 243 1 spec_IsHistory_ac [(2, none)] = true := by kernel_rfl
theorem spec_l21Has_match : matchFn Try.prog rho 242 2 spec_l21Has_ac [(4, none)] = true := by kernel_rfl
theorem spec_l22Good_match : matchFn Try.prog rho 240 2 spec_l22Good_ac [(4, none)] = true := by kernel_rfl
theorem spec_l22Run_match : matchFn Try.prog rho 239 2 spec_l22Run_ac [(4, none), (5, none)] = true := by kernel_rfl
theorem spec_ReplaySerial_match : matchFn Try.prog rho 280 2 spec_ReplaySerial_ac [(4, none), (5, none)] = true := by kernel_rfl
theorem impl_in_match : matchFn Try.prog rho 10 3 impl_in_ac [(6, none)] = true := by kernel_rfl
theorem impl_isID_match : matchFn Try.prog rho 9 1 impl_isID_ac [(2, none)] = true := by kernel_rfl
theorem impl_IsStamp_match : matchFn Try.prog rho 72 1 impl_IsStamp_ac [(2, none)] = true := by kernel_rfl
theorem impl_isKey_match : matchFn Try.prog rho 11 1 impl_isKey_ac [(2, none)] = true := by kernel_rfl
theorem cmp_Or_g14_match : matchFn Try.prog rho 14 1 cmp_Or_g14_ac [(2, none)] = true := by kernel_rfl
theorem cmp_isNaN_g15_match : matchFn Try.prog rho 15 1 cmp_isNaN_g15_ac [(2, none)] = true := by kernel_rfl
theorem cmp_Compare_g13_match : matchFn Try.prog rho 13 2 cmp_Compare_g13_ac [(4, none)] = true := by kernel_rfl
theorem impl_compareMarks_match : matchFn Try.prog rho 75 2 impl_compareMarks_ac [(4, none)] = true := by kernel_rfl
theorem impl_areReads_match : matchFn Try.prog rho 73 1 impl_areReads_ac [(2, none)] = true := by kernel_rfl
theorem impl_isValue_match : matchFn Try.prog rho 76 1 impl_isValue_ac [(2, none)] = true := by kernel_rfl
theorem impl_areWrites_match : matchFn Try.prog rho 74 1 impl_areWrites_ac [(2, none)] = true := by kernel_rfl
theorem impl_isEntry_match : matchFn Try.prog rho 250 1 impl_isEntry_ac [(2, none)] = true := by kernel_rfl
theorem slices_IndexFunc_g253_match : matchFn Try.prog rho 253 2 slices_IndexFunc_g253_ac [(4, none)] = true := by kernel_rfl
theorem impl_FindEntry_1_match : matchFn Try.prog rho 252 2 impl_FindEntry_1_ac [(3, none)] = true := by kernel_rfl
theorem impl_FindEntry_match : matchFn Try.prog rho 251 2 impl_FindEntry_ac [(4, none)] = true := by kernel_rfl
theorem slices_IndexFunc_g55_match : matchFn Try.prog rho 55 2 slices_IndexFunc_g55_ac [(4, none)] = true := by kernel_rfl
theorem slices_ContainsFunc_g54_match : matchFn Try.prog rho 54 2 slices_ContainsFunc_g54_ac [(4, none)] = true := by kernel_rfl
theorem impl_Entry_writes_1_match : matchFn Try.prog rho 53 2 impl_Entry_writes_1_ac [(3, none)] = true := by kernel_rfl
theorem impl_Entry_writes_match : matchFn Try.prog rho 52 2 impl_Entry_writes_ac [(4, none)] = true := by kernel_rfl
theorem impl_WriterOf_match : matchFn Try.prog rho 249 2 impl_WriterOf_ac [(4, none)] = true := by kernel_rfl
theorem impl_IsHistory_match : matchFn Try.prog rho 247 1 impl_IsHistory_ac [(2, none)] = true := by kernel_rfl
theorem slices_ContainsFunc_g255_match : matchFn Try.prog rho 255 2 slices_ContainsFunc_g255_ac [(4, none)] = true := by kernel_rfl
theorem slices_Index_g43_match : matchFn Try.prog rho 43 2 slices_Index_g43_ac [(4, none)] = true := by kernel_rfl
theorem slices_Contains_g42_match : matchFn Try.prog rho 42 2 slices_Contains_g42_ac [(4, none)] = true := by kernel_rfl
theorem impl_isOrder_1_match : matchFn Try.prog rho 254 2 impl_isOrder_1_ac [(3, none)] = true := by kernel_rfl
theorem impl_isOrder_match : matchFn Try.prog rho 248 2 impl_isOrder_ac [(4, none)] = true := by kernel_rfl
theorem slices_IndexFunc_g163_match : matchFn Try.prog rho 163 2 slices_IndexFunc_g163_ac [(4, none)] = true := by kernel_rfl
theorem slices_ContainsFunc_g162_match : matchFn Try.prog rho 162 2 slices_ContainsFunc_g162_ac [(4, none)] = true := by kernel_rfl
theorem impl_replayed_1_match : matchFn Try.prog rho 256 2 impl_replayed_1_ac [(3, none)] = true := by kernel_rfl
theorem math_bits_Mul32_match : matchFn Try.prog rho 394 2 math_bits_Mul32_ac [(4, none), (5, none)] = true := by kernel_rfl
theorem math_bits_Mul64_match : matchFn Try.prog rho 393 2 math_bits_Mul64_ac [(4, none), (5, none)] = true := by kernel_rfl
theorem math_bits_Mul_match : matchFn Try.prog rho 392 2 math_bits_Mul_ac [(4, none), (5, none)] = true := by kernel_rfl
theorem slices_Repeat_g257_F_match : matchFn Try.prog rho 100257 2 slices_Repeat_g257_F_ac [(4, none)] = true := by kernel_rfl
theorem impl_replayed_match : matchFn Try.prog rho 246 2 impl_replayed_ac [(4, none), (5, none)] = true := by kernel_rfl
theorem impl_ReplaySerial_match : matchFn Try.prog rho 283 2 impl_ReplaySerial_ac [(4, none), (5, none)] = true := by kernel_rfl
theorem laws_toReadMarkS_F_match : matchFn Try.prog rho 100028 1 laws_toReadMarkS_F_ac [(2, none)] = true := by kernel_rfl
theorem laws_toWriteS_F_match : matchFn Try.prog rho 100027 1 laws_toWriteS_F_ac [(2, none)] = true := by kernel_rfl
theorem laws_toEntry_F_match : matchFn Try.prog rho 100051 1 laws_toEntry_F_ac [(2, some (true, 4))] = true := by kernel_rfl
theorem laws_toEntryS_F_match : matchFn Try.prog rho 100045 1 laws_toEntryS_F_ac [(2, none)] = true := by kernel_rfl
theorem laws_toIntS_F_match : matchFn Try.prog rho 100058 1 laws_toIntS_F_ac [(2, none)] = true := by kernel_rfl
theorem impl_replayed_F_match : matchFn Try.prog rho 100246 2 impl_replayed_F_ac [(4, none), (5, none)] = true := by kernel_rfl
theorem impl_ReplaySerial_F_match : matchFn Try.prog rho 100283 2 impl_ReplaySerial_F_ac [(4, none), (5, none)] = true := by kernel_rfl
theorem laws_markReadMarkS_M_match : matchFn Try.prog rho 200095 2 laws_markReadMarkS_M_ac [(4, none)] = true := by kernel_rfl
theorem laws_markWriteS_M_match : matchFn Try.prog rho 200232 2 laws_markWriteS_M_ac [(4, none)] = true := by kernel_rfl
theorem laws_markEntryS_M_match : matchFn Try.prog rho 200287 2 laws_markEntryS_M_ac [(4, none)] = true := by kernel_rfl
theorem laws_markIntS_M_match : matchFn Try.prog rho 200086 2 laws_markIntS_M_ac [(4, none)] = true := by kernel_rfl
theorem laws_FnExactReplaySerial_match : matchFn Try.prog rho 305 2 laws_FnExactReplaySerial_ac [(4, none)] = true := by kernel_rfl
def tbl : List (Nat × Fn) := [(24, ⟨2, laws_szReadMarkS_ac, [(4, none)]⟩),
  (23, ⟨2, laws_szWriteS_ac, [(4, none)]⟩),
  (50, ⟨2, laws_szEntry_ac, [(4, none)]⟩),
  (49, ⟨2, laws_szEntryS_ac, [(4, none)]⟩),
  (29, ⟨1, laws_toReadMark_ac, [(2, some (true, 2))]⟩),
  (28, ⟨1, laws_toReadMarkS_ac, [(2, none)]⟩),
  (30, ⟨1, laws_toWrite_ac, [(2, some (true, 2))]⟩),
  (27, ⟨1, laws_toWriteS_ac, [(2, none)]⟩),
  (51, ⟨1, laws_toEntry_ac, [(2, some (true, 4))]⟩),
  (45, ⟨1, laws_toEntryS_ac, [(2, none)]⟩),
  (59, ⟨2, laws_eqIntS_ac, [(4, none)]⟩),
  (35, ⟨2, laws_eqReadMark_ac, [(4, none)]⟩),
  (34, ⟨2, laws_eqReadMarkS_ac, [(4, none)]⟩),
  (36, ⟨2, laws_eqWrite_ac, [(4, none)]⟩),
  (33, ⟨2, laws_eqWriteS_ac, [(4, none)]⟩),
  (56, ⟨2, laws_eqEntry_ac, [(4, none)]⟩),
  (46, ⟨2, laws_eqEntryS_ac, [(4, none)]⟩),
  (90, ⟨2, laws_heldIntS_ac, [(4, none)]⟩),
  (58, ⟨1, laws_toIntS_ac, [(2, none)]⟩),
  (6, ⟨3, spec_l1In_ac, [(6, none)]⟩),
  (71, ⟨2, spec_l5Before_ac, [(4, none)]⟩),
  (70, ⟨1, spec_IsValidTransaction_ac, [(2, none)]⟩),
  (245, ⟨1, spec_l18Tx_ac, [(2, some (true, 9))]⟩),
  (241, ⟨2, spec_FindEntry_ac, [(4, none)]⟩),
  (244, ⟨2, spec_WriterOf_ac, [(4, none)]⟩),
  (243, ⟨1, spec_IsHistory_ac, [(2, none)]⟩),
  (242, ⟨2, spec_l21Has_ac, [(4, none)]⟩),
  (240, ⟨2, spec_l22Good_ac, [(4, none)]⟩),
  (239, ⟨2, spec_l22Run_ac, [(4, none), (5, none)]⟩),
  (280, ⟨2, spec_ReplaySerial_ac, [(4, none), (5, none)]⟩),
  (10, ⟨3, impl_in_ac, [(6, none)]⟩),
  (9, ⟨1, impl_isID_ac, [(2, none)]⟩),
  (72, ⟨1, impl_IsStamp_ac, [(2, none)]⟩),
  (11, ⟨1, impl_isKey_ac, [(2, none)]⟩),
  (14, ⟨1, cmp_Or_g14_ac, [(2, none)]⟩),
  (15, ⟨1, cmp_isNaN_g15_ac, [(2, none)]⟩),
  (13, ⟨2, cmp_Compare_g13_ac, [(4, none)]⟩),
  (75, ⟨2, impl_compareMarks_ac, [(4, none)]⟩),
  (73, ⟨1, impl_areReads_ac, [(2, none)]⟩),
  (76, ⟨1, impl_isValue_ac, [(2, none)]⟩),
  (74, ⟨1, impl_areWrites_ac, [(2, none)]⟩),
  (250, ⟨1, impl_isEntry_ac, [(2, none)]⟩),
  (253, ⟨2, slices_IndexFunc_g253_ac, [(4, none)]⟩),
  (252, ⟨2, impl_FindEntry_1_ac, [(3, none)]⟩),
  (251, ⟨2, impl_FindEntry_ac, [(4, none)]⟩),
  (55, ⟨2, slices_IndexFunc_g55_ac, [(4, none)]⟩),
  (54, ⟨2, slices_ContainsFunc_g54_ac, [(4, none)]⟩),
  (53, ⟨2, impl_Entry_writes_1_ac, [(3, none)]⟩),
  (52, ⟨2, impl_Entry_writes_ac, [(4, none)]⟩),
  (249, ⟨2, impl_WriterOf_ac, [(4, none)]⟩),
  (247, ⟨1, impl_IsHistory_ac, [(2, none)]⟩),
  (255, ⟨2, slices_ContainsFunc_g255_ac, [(4, none)]⟩),
  (43, ⟨2, slices_Index_g43_ac, [(4, none)]⟩),
  (42, ⟨2, slices_Contains_g42_ac, [(4, none)]⟩),
  (254, ⟨2, impl_isOrder_1_ac, [(3, none)]⟩),
  (248, ⟨2, impl_isOrder_ac, [(4, none)]⟩),
  (163, ⟨2, slices_IndexFunc_g163_ac, [(4, none)]⟩),
  (162, ⟨2, slices_ContainsFunc_g162_ac, [(4, none)]⟩),
  (256, ⟨2, impl_replayed_1_ac, [(3, none)]⟩),
  (394, ⟨2, math_bits_Mul32_ac, [(4, none), (5, none)]⟩),
  (393, ⟨2, math_bits_Mul64_ac, [(4, none), (5, none)]⟩),
  (392, ⟨2, math_bits_Mul_ac, [(4, none), (5, none)]⟩),
  (100257, ⟨2, slices_Repeat_g257_F_ac, [(4, none)]⟩),
  (246, ⟨2, impl_replayed_ac, [(4, none), (5, none)]⟩),
  (283, ⟨2, impl_ReplaySerial_ac, [(4, none), (5, none)]⟩),
  (100028, ⟨1, laws_toReadMarkS_F_ac, [(2, none)]⟩),
  (100027, ⟨1, laws_toWriteS_F_ac, [(2, none)]⟩),
  (100051, ⟨1, laws_toEntry_F_ac, [(2, some (true, 4))]⟩),
  (100045, ⟨1, laws_toEntryS_F_ac, [(2, none)]⟩),
  (100058, ⟨1, laws_toIntS_F_ac, [(2, none)]⟩),
  (100246, ⟨2, impl_replayed_F_ac, [(4, none), (5, none)]⟩),
  (100283, ⟨2, impl_ReplaySerial_F_ac, [(4, none), (5, none)]⟩),
  (200095, ⟨2, laws_markReadMarkS_M_ac, [(4, none)]⟩),
  (200232, ⟨2, laws_markWriteS_M_ac, [(4, none)]⟩),
  (200287, ⟨2, laws_markEntryS_M_ac, [(4, none)]⟩),
  (200086, ⟨2, laws_markIntS_M_ac, [(4, none)]⟩),
  (305, ⟨2, laws_FnExactReplaySerial_ac, [(4, none)]⟩)]
theorem tbl_all : AllMatch Try.prog rho tbl := ⟨laws_szReadMarkS_match, laws_szWriteS_match, laws_szEntry_match, laws_szEntryS_match, laws_toReadMark_match, laws_toReadMarkS_match, laws_toWrite_match, laws_toWriteS_match, laws_toEntry_match, laws_toEntryS_match, laws_eqIntS_match, laws_eqReadMark_match, laws_eqReadMarkS_match, laws_eqWrite_match, laws_eqWriteS_match, laws_eqEntry_match, laws_eqEntryS_match, laws_heldIntS_match, laws_toIntS_match, spec_l1In_match, spec_l5Before_match, spec_IsValidTransaction_match, spec_l18Tx_match, spec_FindEntry_match, spec_WriterOf_match, spec_IsHistory_match, spec_l21Has_match, spec_l22Good_match, spec_l22Run_match, spec_ReplaySerial_match, impl_in_match, impl_isID_match, impl_IsStamp_match, impl_isKey_match, cmp_Or_g14_match, cmp_isNaN_g15_match, cmp_Compare_g13_match, impl_compareMarks_match, impl_areReads_match, impl_isValue_match, impl_areWrites_match, impl_isEntry_match, slices_IndexFunc_g253_match, impl_FindEntry_1_match, impl_FindEntry_match, slices_IndexFunc_g55_match, slices_ContainsFunc_g54_match, impl_Entry_writes_1_match, impl_Entry_writes_match, impl_WriterOf_match, impl_IsHistory_match, slices_ContainsFunc_g255_match, slices_Index_g43_match, slices_Contains_g42_match, impl_isOrder_1_match, impl_isOrder_match, slices_IndexFunc_g163_match, slices_ContainsFunc_g162_match, impl_replayed_1_match, math_bits_Mul32_match, math_bits_Mul64_match, math_bits_Mul_match, slices_Repeat_g257_F_match, impl_replayed_match, impl_ReplaySerial_match, laws_toReadMarkS_F_match, laws_toWriteS_F_match, laws_toEntry_F_match, laws_toEntryS_F_match, laws_toIntS_F_match, impl_replayed_F_match, impl_ReplaySerial_F_match, laws_markReadMarkS_M_match, laws_markWriteS_M_match, laws_markEntryS_M_match, laws_markIntS_M_match, laws_FnExactReplaySerial_match, trivial⟩
noncomputable abbrev Ev : Env := EnvW noEnv (look tbl)
theorem good : Good Try.prog rho Ev := good_W (tbl_ok tbl_all) (by kernel_rfl) good_no
theorem g_laws_szReadMarkS : G_laws_szReadMarkS Ev := { is := is_W rfl }
theorem g_laws_szWriteS : G_laws_szWriteS Ev := { is := is_W rfl }
theorem g_laws_szEntry : G_laws_szEntry Ev := { is := is_W rfl, c_laws_szReadMarkS := g_laws_szReadMarkS, c_laws_szWriteS := g_laws_szWriteS }
theorem g_laws_szEntryS : G_laws_szEntryS Ev := { is := is_W rfl, c_laws_szEntry := g_laws_szEntry }
theorem g_laws_toReadMark : G_laws_toReadMark Ev := { is := is_W rfl }
theorem g_laws_toReadMarkS : G_laws_toReadMarkS Ev := { is := is_W rfl, c_laws_toReadMark := g_laws_toReadMark }
theorem g_laws_toWrite : G_laws_toWrite Ev := { is := is_W rfl }
theorem g_laws_toWriteS : G_laws_toWriteS Ev := { is := is_W rfl, c_laws_toWrite := g_laws_toWrite }
theorem g_laws_toEntry : G_laws_toEntry Ev := { is := is_W rfl, c_laws_toReadMarkS := g_laws_toReadMarkS, c_laws_toWriteS := g_laws_toWriteS }
theorem g_laws_toEntryS : G_laws_toEntryS Ev := { is := is_W rfl, c_laws_toEntry := g_laws_toEntry }
theorem g_laws_eqIntS : G_laws_eqIntS Ev := { is := is_W rfl }
theorem g_laws_eqReadMark : G_laws_eqReadMark Ev := { is := is_W rfl }
theorem g_laws_eqReadMarkS : G_laws_eqReadMarkS Ev := { is := is_W rfl, c_laws_eqReadMark := g_laws_eqReadMark }
theorem g_laws_eqWrite : G_laws_eqWrite Ev := { is := is_W rfl }
theorem g_laws_eqWriteS : G_laws_eqWriteS Ev := { is := is_W rfl, c_laws_eqWrite := g_laws_eqWrite }
theorem g_laws_eqEntry : G_laws_eqEntry Ev := { is := is_W rfl, c_laws_eqReadMarkS := g_laws_eqReadMarkS, c_laws_eqWriteS := g_laws_eqWriteS }
theorem g_laws_eqEntryS : G_laws_eqEntryS Ev := { is := is_W rfl, c_laws_eqEntry := g_laws_eqEntry }
theorem g_laws_heldIntS : G_laws_heldIntS Ev := { is := is_W rfl }
theorem g_laws_toIntS : G_laws_toIntS Ev := { is := is_W rfl }
theorem g_spec_l1In : G_spec_l1In Ev := { is := is_W rfl }
theorem g_spec_l5Before : G_spec_l5Before Ev := { is := is_W rfl }
theorem g_spec_IsValidTransaction : G_spec_IsValidTransaction Ev := { is := is_W rfl, c_spec_l1In := g_spec_l1In, c_spec_l5Before := g_spec_l5Before }
theorem g_spec_l18Tx : G_spec_l18Tx Ev := { is := is_W rfl }
theorem g_spec_FindEntry : G_spec_FindEntry Ev := { is := is_W rfl }
theorem g_spec_WriterOf : G_spec_WriterOf Ev := { is := is_W rfl }
theorem g_spec_IsHistory : G_spec_IsHistory Ev := { is := is_W rfl, c_spec_IsValidTransaction := g_spec_IsValidTransaction, c_spec_l18Tx := g_spec_l18Tx, c_spec_FindEntry := g_spec_FindEntry, c_spec_WriterOf := g_spec_WriterOf }
theorem g_spec_l21Has : G_spec_l21Has Ev := { is := is_W rfl }
theorem g_spec_l22Good : G_spec_l22Good Ev := { is := is_W rfl, c_spec_IsHistory := g_spec_IsHistory, c_spec_FindEntry := g_spec_FindEntry, c_spec_l21Has := g_spec_l21Has }
theorem g_spec_l22Run : G_spec_l22Run Ev := { is := is_W rfl, c_spec_FindEntry := g_spec_FindEntry }
theorem g_spec_ReplaySerial : G_spec_ReplaySerial Ev := { is := is_W rfl, c_spec_l22Good := g_spec_l22Good, c_spec_l22Run := g_spec_l22Run }
theorem g_impl_in : G_impl_in Ev := { is := is_W rfl }
theorem g_impl_isID : G_impl_isID Ev := { is := is_W rfl, c_impl_in := g_impl_in }
theorem g_impl_IsStamp : G_impl_IsStamp Ev := { is := is_W rfl, c_impl_in := g_impl_in }
theorem g_impl_isKey : G_impl_isKey Ev := { is := is_W rfl, c_impl_in := g_impl_in }
theorem g_cmp_Or_g14 : G_cmp_Or_g14 Ev := { is := is_W rfl }
theorem g_cmp_isNaN_g15 : G_cmp_isNaN_g15 Ev := { is := is_W rfl }
theorem g_cmp_Compare_g13 : G_cmp_Compare_g13 Ev := { is := is_W rfl, c_cmp_isNaN_g15 := g_cmp_isNaN_g15 }
theorem g_impl_compareMarks : G_impl_compareMarks Ev := { is := is_W rfl, c_cmp_Or_g14 := g_cmp_Or_g14, c_cmp_Compare_g13 := g_cmp_Compare_g13 }
theorem g_impl_areReads : G_impl_areReads Ev := { is := is_W rfl, c_impl_isKey := g_impl_isKey, c_impl_in := g_impl_in, c_impl_compareMarks := g_impl_compareMarks }
theorem g_impl_isValue : G_impl_isValue Ev := { is := is_W rfl, c_impl_in := g_impl_in }
theorem g_impl_areWrites : G_impl_areWrites Ev := { is := is_W rfl, c_impl_isKey := g_impl_isKey, c_impl_isValue := g_impl_isValue }
theorem g_impl_isEntry : G_impl_isEntry Ev := { is := is_W rfl, c_impl_isID := g_impl_isID, c_impl_IsStamp := g_impl_IsStamp, c_impl_areReads := g_impl_areReads, c_impl_areWrites := g_impl_areWrites }
theorem g_slices_IndexFunc_g253 : G_slices_IndexFunc_g253 Ev := { is := is_W rfl }
theorem g_impl_FindEntry_1 : G_impl_FindEntry_1 Ev := { is := is_W rfl }
theorem g_impl_FindEntry : G_impl_FindEntry Ev := { is := is_W rfl, c_slices_IndexFunc_g253 := g_slices_IndexFunc_g253, c_impl_FindEntry_1 := g_impl_FindEntry_1 }
theorem g_slices_IndexFunc_g55 : G_slices_IndexFunc_g55 Ev := { is := is_W rfl }
theorem g_slices_ContainsFunc_g54 : G_slices_ContainsFunc_g54 Ev := { is := is_W rfl, c_slices_IndexFunc_g55 := g_slices_IndexFunc_g55 }
theorem g_impl_Entry_writes_1 : G_impl_Entry_writes_1 Ev := { is := is_W rfl }
theorem g_impl_Entry_writes : G_impl_Entry_writes Ev := { is := is_W rfl, c_slices_ContainsFunc_g54 := g_slices_ContainsFunc_g54, c_impl_Entry_writes_1 := g_impl_Entry_writes_1 }
theorem g_impl_WriterOf : G_impl_WriterOf Ev := { is := is_W rfl, c_impl_Entry_writes := g_impl_Entry_writes }
theorem g_impl_IsHistory : G_impl_IsHistory Ev := { is := is_W rfl, c_impl_isEntry := g_impl_isEntry, c_impl_FindEntry := g_impl_FindEntry, c_impl_WriterOf := g_impl_WriterOf }
theorem g_slices_ContainsFunc_g255 : G_slices_ContainsFunc_g255 Ev := { is := is_W rfl, c_slices_IndexFunc_g253 := g_slices_IndexFunc_g253 }
theorem g_slices_Index_g43 : G_slices_Index_g43 Ev := { is := is_W rfl }
theorem g_slices_Contains_g42 : G_slices_Contains_g42 Ev := { is := is_W rfl, c_slices_Index_g43 := g_slices_Index_g43 }
theorem g_impl_isOrder_1 : G_impl_isOrder_1 Ev := { is := is_W rfl, c_slices_Contains_g42 := g_slices_Contains_g42 }
theorem g_impl_isOrder : G_impl_isOrder Ev := { is := is_W rfl, c_slices_ContainsFunc_g255 := g_slices_ContainsFunc_g255, c_impl_isOrder_1 := g_impl_isOrder_1 }
theorem g_slices_IndexFunc_g163 : G_slices_IndexFunc_g163 Ev := { is := is_W rfl }
theorem g_slices_ContainsFunc_g162 : G_slices_ContainsFunc_g162 Ev := { is := is_W rfl, c_slices_IndexFunc_g163 := g_slices_IndexFunc_g163 }
theorem g_impl_replayed_1 : G_impl_replayed_1 Ev := { is := is_W rfl }
theorem g_math_bits_Mul32 : G_math_bits_Mul32 Ev := { is := is_W rfl }
theorem g_math_bits_Mul64 : G_math_bits_Mul64 Ev := { is := is_W rfl }
theorem g_math_bits_Mul : G_math_bits_Mul Ev := { is := is_W rfl, c_math_bits_Mul32 := g_math_bits_Mul32, c_math_bits_Mul64 := g_math_bits_Mul64 }
theorem g_slices_Repeat_g257_F : G_slices_Repeat_g257_F Ev := { is := is_W rfl, c_math_bits_Mul := g_math_bits_Mul }
theorem g_impl_replayed : G_impl_replayed Ev := { is := is_W rfl, c_impl_FindEntry := g_impl_FindEntry, c_slices_ContainsFunc_g162 := g_slices_ContainsFunc_g162, c_impl_replayed_1 := g_impl_replayed_1, c_slices_Repeat_g257_F := g_slices_Repeat_g257_F }
theorem g_impl_ReplaySerial : G_impl_ReplaySerial Ev := { is := is_W rfl, c_impl_IsHistory := g_impl_IsHistory, c_impl_isOrder := g_impl_isOrder, c_impl_replayed := g_impl_replayed }
theorem g_laws_toReadMarkS_F : G_laws_toReadMarkS_F Ev := { is := is_W rfl, c_laws_toReadMark := g_laws_toReadMark }
theorem g_laws_toWriteS_F : G_laws_toWriteS_F Ev := { is := is_W rfl, c_laws_toWrite := g_laws_toWrite }
theorem g_laws_toEntry_F : G_laws_toEntry_F Ev := { is := is_W rfl, c_laws_toReadMarkS_F := g_laws_toReadMarkS_F, c_laws_toWriteS_F := g_laws_toWriteS_F }
theorem g_laws_toEntryS_F : G_laws_toEntryS_F Ev := { is := is_W rfl, c_laws_toEntry_F := g_laws_toEntry_F }
theorem g_laws_toIntS_F : G_laws_toIntS_F Ev := { is := is_W rfl }
theorem g_impl_replayed_F : G_impl_replayed_F Ev := { is := is_W rfl, c_impl_FindEntry := g_impl_FindEntry, c_slices_ContainsFunc_g162 := g_slices_ContainsFunc_g162, c_impl_replayed_1 := g_impl_replayed_1, c_slices_Repeat_g257_F := g_slices_Repeat_g257_F }
theorem g_impl_ReplaySerial_F : G_impl_ReplaySerial_F Ev := { is := is_W rfl, c_impl_IsHistory := g_impl_IsHistory, c_impl_isOrder := g_impl_isOrder, c_impl_replayed_F := g_impl_replayed_F }
theorem g_laws_markReadMarkS_M : G_laws_markReadMarkS_M Ev := { is := is_W rfl }
theorem g_laws_markWriteS_M : G_laws_markWriteS_M Ev := { is := is_W rfl }
theorem g_laws_markEntryS_M : G_laws_markEntryS_M Ev := { is := is_W rfl, c_laws_markReadMarkS_M := g_laws_markReadMarkS_M, c_laws_markWriteS_M := g_laws_markWriteS_M }
theorem g_laws_markIntS_M : G_laws_markIntS_M Ev := { is := is_W rfl }
theorem g_laws_FnExactReplaySerial : G_laws_FnExactReplaySerial Ev := { is := is_W rfl, c_laws_szEntryS := g_laws_szEntryS, c_laws_toEntryS := g_laws_toEntryS, c_laws_eqIntS := g_laws_eqIntS, c_laws_eqEntryS := g_laws_eqEntryS, c_laws_heldIntS := g_laws_heldIntS, c_laws_toIntS := g_laws_toIntS, c_spec_ReplaySerial := g_spec_ReplaySerial, c_impl_ReplaySerial := g_impl_ReplaySerial, c_laws_toEntryS_F := g_laws_toEntryS_F, c_laws_toIntS_F := g_laws_toIntS_F, c_impl_ReplaySerial_F := g_impl_ReplaySerial_F, c_laws_markEntryS_M := g_laws_markEntryS_M, c_laws_markIntS_M := g_laws_markIntS_M }
end Go.Proofs.Ytfdcdbkblkehcaa.Am.FnExactReplaySerial
