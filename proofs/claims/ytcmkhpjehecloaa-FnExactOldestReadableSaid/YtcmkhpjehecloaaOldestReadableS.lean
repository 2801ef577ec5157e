import Derived.Test.YtcmkhpjehecloaaChecked
import Derived.KernelRfl
import Derived.Test.YtcmkhpjehecloaaAmW
import Derived.Test.YtcmkhpjehecloaaOldestReadableF0
import Derived.Test.YtcmkhpjehecloaaOldestReadableF1
namespace Go.Proofs.Ytcmkhpjehecloaa.Am.FnExactOldestReadable
open Go Go.Proofs
set_option linter.unusedVariables false
set_option maxRecDepth 100000

/-- Which function of the program each number names. -/
def rho (m : Nat) : FuncId := match [(6, 38), (9, 158), (10, 101), (11, 47), (13, 104), (14, 185), (15, 163), (23, 34), (24, 33), (27, 43), (28, 42), (29, 93), (30, 94), (33, 51), (34, 50), (35, 107), (36, 108), (70, 37), (71, 91), (72, 160), (73, 161), (74, 162), (75, 186), (76, 48), (93, 10), (97, 14), (99, 7), (100, 32), (101, 89), (103, 36), (104, 90), (105, 154), (107, 41), (108, 92), (109, 155), (112, 45), (113, 98), (114, 97), (115, 156), (116, 99), (117, 157), (118, 52), (119, 109), (120, 166), (124, 20), (125, 22), (128, 18), (129, 60), (130, 59), (131, 58), (132, 8), (133, 61), (135, 115), (136, 114), (137, 111), (138, 112), (139, 113), (140, 167), (141, 168), (142, 64), (143, 63), (144, 62), (145, 11), (146, 116), (147, 117), (148, 65), (150, 118), (151, 119), (152, 120), (153, 121), (154, 123), (155, 122), (156, 126), (157, 125), (158, 169), (159, 100), (160, 159), (161, 189), (162, 188), (163, 206), (164, 190), (165, 207), (166, 215), (167, 214), (168, 170), (169, 124), (170, 171), (171, 191), (172, 134), (173, 172), (174, 68), (175, 67), (176, 66), (177, 13), (178, 127), (179, 128), (330, 4), (331, 21), (332, 19)].lookup m with | some f => f | none => 0
theorem laws_szVersionS_match : matchFn Try.prog rho 101 2 laws_szVersionS_ac [(4, none)] = true := by kernel_rfl
theorem laws_szVersionSS_match : matchFn Try.prog rho 100 2 laws_szVersionSS_ac [(4, none)] = true := by kernel_rfl
theorem laws_szStore_match : matchFn Try.prog rho 99 2 laws_szStore_ac [(4, none)] = true := by kernel_rfl
theorem laws_szReadMarkS_match : matchFn Try.prog rho 24 2 laws_szReadMarkS_ac [(4, none)] = true := by kernel_rfl
theorem laws_szWriteS_match : matchFn Try.prog rho 23 2 laws_szWriteS_ac [(4, none)] = true := by kernel_rfl
theorem laws_szTransaction_match : matchFn Try.prog rho 132 2 laws_szTransaction_ac [(4, none)] = true := by kernel_rfl
theorem laws_szTransactionS_match : matchFn Try.prog rho 131 2 laws_szTransactionS_ac [(4, none)] = true := by kernel_rfl
theorem laws_szLockS_match : matchFn Try.prog rho 130 2 laws_szLockS_ac [(4, none)] = true := by kernel_rfl
theorem laws_szWaitS_match : matchFn Try.prog rho 129 2 laws_szWaitS_ac [(4, none)] = true := by kernel_rfl
theorem laws_szEngine_match : matchFn Try.prog rho 128 2 laws_szEngine_ac [(4, none)] = true := by kernel_rfl
theorem spec_l1In_match : matchFn Try.prog rho 6 3 spec_l1In_ac [(6, none)] = true := by kernel_rfl
theorem spec_IsValidVersion_match : matchFn Try.prog rho 105 1 spec_IsValidVersion_ac [(2, none)] = true := by kernel_rfl
theorem spec_IsValidChain_match : matchFn Try.prog rho 104 1 spec_IsValidChain_ac [(2, none)] = true := by kernel_rfl
theorem spec_IsValidStore_match : matchFn Try.prog rho 103 1 spec_IsValidStore_ac [(2, none)] = true := by kernel_rfl
theorem spec_l5Before_match : matchFn Try.prog rho 71 2 spec_l5Before_ac [(4, none)] = true := by kernel_rfl
theorem spec_IsValidTransaction_match : matchFn Try.prog rho 70 1 spec_IsValidTransaction_ac [(2, none)] = true := by kernel_rfl
theorem spec_AreLocks_match : matchFn Try.prog rho 137 1 spec_AreLocks_ac [(2, none)] = true := by kernel_rfl
theorem spec_AreWaits_match : matchFn Try.prog rho 138 1 spec_AreWaits_ac [(2, none)] = true := by kernel_rfl
theorem spec_LastStamp_match : matchFn Try.prog rho 139 1 spec_LastStamp_ac [(2, none)] = true := by kernel_rfl
theorem spec_FindVersion_match : matchFn Try.prog rho 140 2 spec_FindVersion_ac [(4, none)] = true := by kernel_rfl
theorem spec_ReadsExist_match : matchFn Try.prog rho 136 2 spec_ReadsExist_ac [(4, none)] = true := by kernel_rfl
theorem spec_FindTransaction_match : matchFn Try.prog rho 141 2 spec_FindTransaction_ac [(4, none)] = true := by kernel_rfl
theorem spec_l13Active_match : matchFn Try.prog rho 135 2 spec_l13Active_ac [(4, none)] = true := by kernel_rfl
theorem spec_IsValidEngine_match : matchFn Try.prog rho 133 1 spec_IsValidEngine_ac [(2, none)] = true := by kernel_rfl
theorem spec_OldestReadable_match : matchFn Try.prog rho 332 1 spec_OldestReadable_ac [(2, none)] = true := by kernel_rfl
theorem laws_toVersion_match : matchFn Try.prog rho 109 1 laws_toVersion_ac [(2, some (true, 5))] = true := by kernel_rfl
theorem laws_toVersionS_match : matchFn Try.prog rho 108 1 laws_toVersionS_ac [(2, none)] = true := by kernel_rfl
theorem laws_toVersionSS_match : matchFn Try.prog rho 107 1 laws_toVersionSS_ac [(2, none)] = true := by kernel_rfl
theorem laws_toStore_match : matchFn Try.prog rho 93 1 laws_toStore_ac [(2, some (true, 1))] = true := by kernel_rfl
theorem laws_toReadMark_match : matchFn Try.prog rho 29 1 laws_toReadMark_ac [(2, some (true, 2))] = true := by kernel_rfl
theorem laws_toReadMarkS_match : matchFn Try.prog rho 28 1 laws_toReadMarkS_ac [(2, none)] = true := by kernel_rfl
theorem laws_toWrite_match : matchFn Try.prog rho 30 1 laws_toWrite_ac [(2, some (true, 2))] = true := by kernel_rfl
theorem laws_toWriteS_match : matchFn Try.prog rho 27 1 laws_toWriteS_ac [(2, none)] = true := by kernel_rfl
theorem laws_toTransaction_match : matchFn Try.prog rho 145 1 laws_toTransaction_ac [(2, some (true, 9))] = true := by kernel_rfl
theorem laws_toTransactionS_match : matchFn Try.prog rho 144 1 laws_toTransactionS_ac [(2, none)] = true := by kernel_rfl
theorem laws_toLock_match : matchFn Try.prog rho 146 1 laws_toLock_ac [(2, some (true, 2))] = true := by kernel_rfl
theorem laws_toLockS_match : matchFn Try.prog rho 143 1 laws_toLockS_ac [(2, none)] = true := by kernel_rfl
theorem laws_toWait_match : matchFn Try.prog rho 147 1 laws_toWait_ac [(2, some (true, 2))] = true := by kernel_rfl
theorem laws_toWaitS_match : matchFn Try.prog rho 142 1 laws_toWaitS_ac [(2, none)] = true := by kernel_rfl
theorem laws_toEngine_match : matchFn Try.prog rho 124 1 laws_toEngine_ac [(2, some (true, 6))] = true := by kernel_rfl
theorem slices_IndexFunc_g115_match : matchFn Try.prog rho 115 2 slices_IndexFunc_g115_ac [(4, none)] = true := by kernel_rfl
theorem slices_ContainsFunc_g114_match : matchFn Try.prog rho 114 2 slices_ContainsFunc_g114_ac [(4, none)] = true := by kernel_rfl
theorem impl_in_match : matchFn Try.prog rho 10 3 impl_in_ac [(6, none)] = true := by kernel_rfl
theorem impl_isValue_match : matchFn Try.prog rho 76 1 impl_isValue_ac [(2, none)] = true := by kernel_rfl
theorem impl_isID_match : matchFn Try.prog rho 9 1 impl_isID_ac [(2, none)] = true := by kernel_rfl
theorem impl_IsValidVersion_match : matchFn Try.prog rho 117 1 impl_IsValidVersion_ac [(2, none)] = true := by kernel_rfl
theorem impl_IsValidChain_match : matchFn Try.prog rho 116 1 impl_IsValidChain_ac [(2, none)] = true := by kernel_rfl
theorem impl_IsValidStore_1_match : matchFn Try.prog rho 113 1 impl_IsValidStore_1_ac [(2, none)] = true := by kernel_rfl
theorem impl_IsValidStore_match : matchFn Try.prog rho 112 1 impl_IsValidStore_ac [(2, none)] = true := by kernel_rfl
theorem impl_isKey_match : matchFn Try.prog rho 11 1 impl_isKey_ac [(2, none)] = true := by kernel_rfl
theorem impl_AreLocks_match : matchFn Try.prog rho 150 1 impl_AreLocks_ac [(2, none)] = true := by kernel_rfl
theorem impl_AreWaits_match : matchFn Try.prog rho 151 1 impl_AreWaits_ac [(2, none)] = true := by kernel_rfl
theorem impl_Store_lastStamp_match : matchFn Try.prog rho 152 1 impl_Store_lastStamp_ac [(2, none)] = true := by kernel_rfl
theorem impl_isScheme_match : matchFn Try.prog rho 160 1 impl_isScheme_ac [(2, none)] = true := by kernel_rfl
theorem impl_IsStamp_match : matchFn Try.prog rho 72 1 impl_IsStamp_ac [(2, none)] = true := by kernel_rfl
theorem cmp_isNaN_g15_match : matchFn Try.prog rho 15 1 cmp_isNaN_g15_ac [(2, none)] = true := by kernel_rfl
theorem cmp_Compare_g13_match : matchFn Try.prog rho 13 2 cmp_Compare_g13_ac [(4, none)] = true := by kernel_rfl
theorem cmp_Or_g14_match : matchFn Try.prog rho 14 1 cmp_Or_g14_ac [(2, none)] = true := by kernel_rfl
theorem impl_compareMarks_match : matchFn Try.prog rho 75 2 impl_compareMarks_ac [(4, none)] = true := by kernel_rfl
theorem impl_areReads_match : matchFn Try.prog rho 73 1 impl_areReads_ac [(2, none)] = true := by kernel_rfl
theorem impl_areWrites_match : matchFn Try.prog rho 74 1 impl_areWrites_ac [(2, none)] = true := by kernel_rfl
theorem impl_IsValidTransaction_match : matchFn Try.prog rho 159 1 impl_IsValidTransaction_ac [(2, none)] = true := by kernel_rfl
theorem slices_IndexFunc_g163_match : matchFn Try.prog rho 163 2 slices_IndexFunc_g163_ac [(4, none)] = true := by kernel_rfl
theorem slices_ContainsFunc_g162_match : matchFn Try.prog rho 162 2 slices_ContainsFunc_g162_ac [(4, none)] = true := by kernel_rfl
theorem slices_IndexFunc_g167_match : matchFn Try.prog rho 167 2 slices_IndexFunc_g167_ac [(4, none)] = true := by kernel_rfl
theorem impl_FindVersion_1_match : matchFn Try.prog rho 166 2 impl_FindVersion_1_ac [(3, none)] = true := by kernel_rfl
theorem impl_FindVersion_match : matchFn Try.prog rho 165 2 impl_FindVersion_ac [(4, none)] = true := by kernel_rfl
theorem impl_Store_find_match : matchFn Try.prog rho 164 2 impl_Store_find_ac [(4, none)] = true := by kernel_rfl
theorem impl_Store_readsExist_1_match : matchFn Try.prog rho 161 2 impl_Store_readsExist_1_ac [(3, none)] = true := by kernel_rfl
theorem impl_Store_readsExist_match : matchFn Try.prog rho 158 2 impl_Store_readsExist_ac [(4, none)] = true := by kernel_rfl
theorem impl_Engine_areTransactions_match : matchFn Try.prog rho 153 1 impl_Engine_areTransactions_ac [(2, none)] = true := by kernel_rfl
theorem slices_IndexFunc_g168_match : matchFn Try.prog rho 168 2 slices_IndexFunc_g168_ac [(4, none)] = true := by kernel_rfl
theorem slices_ContainsFunc_g155_match : matchFn Try.prog rho 155 2 slices_ContainsFunc_g155_ac [(4, none)] = true := by kernel_rfl
theorem slices_IndexFunc_g172_match : matchFn Try.prog rho 172 2 slices_IndexFunc_g172_ac [(4, none)] = true := by kernel_rfl
theorem impl_FindTransaction_1_match : matchFn Try.prog rho 171 2 impl_FindTransaction_1_ac [(3, none)] = true := by kernel_rfl
theorem impl_FindTransaction_match : matchFn Try.prog rho 170 2 impl_FindTransaction_ac [(4, none)] = true := by kernel_rfl
theorem impl_Engine_isActive_match : matchFn Try.prog rho 169 2 impl_Engine_isActive_ac [(4, none)] = true := by kernel_rfl
theorem impl_IsValidEngine_1_match : matchFn Try.prog rho 154 2 impl_IsValidEngine_1_ac [(3, none)] = true := by kernel_rfl
theorem slices_IndexFunc_g173_match : matchFn Try.prog rho 173 2 slices_IndexFunc_g173_ac [(4, none)] = true := by kernel_rfl
theorem slices_ContainsFunc_g157_match : matchFn Try.prog rho 157 2 slices_ContainsFunc_g157_ac [(4, none)] = true := by kernel_rfl
theorem impl_IsValidEngine_2_match : matchFn Try.prog rho 156 2 impl_IsValidEngine_2_ac [(3, none)] = true := by kernel_rfl
theorem impl_IsValidEngine_match : matchFn Try.prog rho 148 1 impl_IsValidEngine_ac [(2, none)] = true := by kernel_rfl
theorem impl_OldestReadable_match : matchFn Try.prog rho 331 1 impl_OldestReadable_ac [(2, none)] = true := by kernel_rfl
theorem laws_eqVersion_match : matchFn Try.prog rho 120 2 laws_eqVersion_ac [(4, none)] = true := by kernel_rfl
theorem laws_eqVersionS_match : matchFn Try.prog rho 119 2 laws_eqVersionS_ac [(4, none)] = true := by kernel_rfl
theorem laws_eqVersionSS_match : matchFn Try.prog rho 118 2 laws_eqVersionSS_ac [(4, none)] = true := by kernel_rfl
theorem laws_eqStore_match : matchFn Try.prog rho 97 2 laws_eqStore_ac [(4, none)] = true := by kernel_rfl
theorem laws_eqReadMark_match : matchFn Try.prog rho 35 2 laws_eqReadMark_ac [(4, none)] = true := by kernel_rfl
theorem laws_eqReadMarkS_match : matchFn Try.prog rho 34 2 laws_eqReadMarkS_ac [(4, none)] = true := by kernel_rfl
theorem laws_eqWrite_match : matchFn Try.prog rho 36 2 laws_eqWrite_ac [(4, none)] = true := by kernel_rfl
theorem laws_eqWriteS_match : matchFn Try.prog rho 33 2 laws_eqWriteS_ac [(4, none)] = true := by kernel_rfl
theorem laws_eqTransaction_match : matchFn Try.prog rho 177 2 laws_eqTransaction_ac [(4, none)] = true := by kernel_rfl
theorem laws_eqTransactionS_match : matchFn Try.prog rho 176 2 laws_eqTransactionS_ac [(4, none)] = true := by kernel_rfl
theorem laws_eqLock_match : matchFn Try.prog rho 178 2 laws_eqLock_ac [(4, none)] = true := by kernel_rfl
theorem laws_eqLockS_match : matchFn Try.prog rho 175 2 laws_eqLockS_ac [(4, none)] = true := by kernel_rfl
theorem laws_eqWait_match : matchFn Try.prog rho 179 2 laws_eqWait_ac [(4, none)] = true := by kernel_rfl
theorem laws_eqWaitS_match : matchFn Try.prog rho 174 2 laws_eqWaitS_ac [(4, none)] = true := by kernel_rfl
theorem laws_eqEngine_match : matchFn Try.prog rho 125 2 laws_eqEngine_ac [(4, none)] = true := by kernel_rfl
theorem laws_FnExactOldestReadable_match : matchFn Try.prog rho 330 1 laws_FnExactOldestReadable_ac [(2, none)] = true := by kernel_rfl
def tbl : List (Nat × Fn) := [(101, ⟨2, laws_szVersionS_ac, [(4, none)]⟩),
  (100, ⟨2, laws_szVersionSS_ac, [(4, none)]⟩),
  (99, ⟨2, laws_szStore_ac, [(4, none)]⟩),
  (24, ⟨2, laws_szReadMarkS_ac, [(4, none)]⟩),
  (23, ⟨2, laws_szWriteS_ac, [(4, none)]⟩),
  (132, ⟨2, laws_szTransaction_ac, [(4, none)]⟩),
  (131, ⟨2, laws_szTransactionS_ac, [(4, none)]⟩),
  (130, ⟨2, laws_szLockS_ac, [(4, none)]⟩),
  (129, ⟨2, laws_szWaitS_ac, [(4, none)]⟩),
  (128, ⟨2, laws_szEngine_ac, [(4, none)]⟩),
  (6, ⟨3, spec_l1In_ac, [(6, none)]⟩),
  (105, ⟨1, spec_IsValidVersion_ac, [(2, none)]⟩),
  (104, ⟨1, spec_IsValidChain_ac, [(2, none)]⟩),
  (103, ⟨1, spec_IsValidStore_ac, [(2, none)]⟩),
  (71, ⟨2, spec_l5Before_ac, [(4, none)]⟩),
  (70, ⟨1, spec_IsValidTransaction_ac, [(2, none)]⟩),
  (137, ⟨1, spec_AreLocks_ac, [(2, none)]⟩),
  (138, ⟨1, spec_AreWaits_ac, [(2, none)]⟩),
  (139, ⟨1, spec_LastStamp_ac, [(2, none)]⟩),
  (140, ⟨2, spec_FindVersion_ac, [(4, none)]⟩),
  (136, ⟨2, spec_ReadsExist_ac, [(4, none)]⟩),
  (141, ⟨2, spec_FindTransaction_ac, [(4, none)]⟩),
  (135, ⟨2, spec_l13Active_ac, [(4, none)]⟩),
  (133, ⟨1, spec_IsValidEngine_ac, [(2, none)]⟩),
  (332, ⟨1, spec_OldestReadable_ac, [(2, none)]⟩),
  (109, ⟨1, laws_toVersion_ac, [(2, some (true, 5))]⟩),
  (108, ⟨1, laws_toVersionS_ac, [(2, none)]⟩),
  (107, ⟨1, laws_toVersionSS_ac, [(2, none)]⟩),
  (93, ⟨1, laws_toStore_ac, [(2, some (true, 1))]⟩),
  (29, ⟨1, laws_toReadMark_ac, [(2, some (true, 2))]⟩),
  (28, ⟨1, laws_toReadMarkS_ac, [(2, none)]⟩),
  (30, ⟨1, laws_toWrite_ac, [(2, some (true, 2))]⟩),
  (27, ⟨1, laws_toWriteS_ac, [(2, none)]⟩),
  (145, ⟨1, laws_toTransaction_ac, [(2, some (true, 9))]⟩),
  (144, ⟨1, laws_toTransactionS_ac, [(2, none)]⟩),
  (146, ⟨1, laws_toLock_ac, [(2, some (true, 2))]⟩),
  (143, ⟨1, laws_toLockS_ac, [(2, none)]⟩),
  (147, ⟨1, laws_toWait_ac, [(2, some (true, 2))]⟩),
  (142, ⟨1, laws_toWaitS_ac, [(2, none)]⟩),
  (124, ⟨1, laws_toEngine_ac, [(2, some (true, 6))]⟩),
  (115, ⟨2, slices_IndexFunc_g115_ac, [(4, none)]⟩),
  (114, ⟨2, slices_ContainsFunc_g114_ac, [(4, none)]⟩),
  (10, ⟨3, impl_in_ac, [(6, none)]⟩),
  (76, ⟨1, impl_isValue_ac, [(2, none)]⟩),
  (9, ⟨1, impl_isID_ac, [(2, none)]⟩),
  (117, ⟨1, impl_IsValidVersion_ac, [(2, none)]⟩),
  (116, ⟨1, impl_IsValidChain_ac, [(2, none)]⟩),
  (113, ⟨1, impl_IsValidStore_1_ac, [(2, none)]⟩),
  (112, ⟨1, impl_IsValidStore_ac, [(2, none)]⟩),
  (11, ⟨1, impl_isKey_ac, [(2, none)]⟩),
  (150, ⟨1, impl_AreLocks_ac, [(2, none)]⟩),
  (151, ⟨1, impl_AreWaits_ac, [(2, none)]⟩),
  (152, ⟨1, impl_Store_lastStamp_ac, [(2, none)]⟩),
  (160, ⟨1, impl_isScheme_ac, [(2, none)]⟩),
  (72, ⟨1, impl_IsStamp_ac, [(2, none)]⟩),
  (15, ⟨1, cmp_isNaN_g15_ac, [(2, none)]⟩),
  (13, ⟨2, cmp_Compare_g13_ac, [(4, none)]⟩),
  (14, ⟨1, cmp_Or_g14_ac, [(2, none)]⟩),
  (75, ⟨2, impl_compareMarks_ac, [(4, none)]⟩),
  (73, ⟨1, impl_areReads_ac, [(2, none)]⟩),
  (74, ⟨1, impl_areWrites_ac, [(2, none)]⟩),
  (159, ⟨1, impl_IsValidTransaction_ac, [(2, none)]⟩),
  (163, ⟨2, slices_IndexFunc_g163_ac, [(4, none)]⟩),
  (162, ⟨2, slices_ContainsFunc_g162_ac, [(4, none)]⟩),
  (167, ⟨2, slices_IndexFunc_g167_ac, [(4, none)]⟩),
  (166, ⟨2, impl_FindVersion_1_ac, [(3, none)]⟩),
  (165, ⟨2, impl_FindVersion_ac, [(4, none)]⟩),
  (164, ⟨2, impl_Store_find_ac, [(4, none)]⟩),
  (161, ⟨2, impl_Store_readsExist_1_ac, [(3, none)]⟩),
  (158, ⟨2, impl_Store_readsExist_ac, [(4, none)]⟩),
  (153, ⟨1, impl_Engine_areTransactions_ac, [(2, none)]⟩),
  (168, ⟨2, slices_IndexFunc_g168_ac, [(4, none)]⟩),
  (155, ⟨2, slices_ContainsFunc_g155_ac, [(4, none)]⟩),
  (172, ⟨2, slices_IndexFunc_g172_ac, [(4, none)]⟩),
  (171, ⟨2, impl_FindTransaction_1_ac, [(3, none)]⟩),
  (170, ⟨2, impl_FindTransaction_ac, [(4, none)]⟩),
  (169, ⟨2, impl_Engine_isActive_ac, [(4, none)]⟩),
  (154, ⟨2, impl_IsValidEngine_1_ac, [(3, none)]⟩),
  (173, ⟨2, slices_IndexFunc_g173_ac, [(4, none)]⟩),
  (157, ⟨2, slices_ContainsFunc_g157_ac, [(4, none)]⟩),
  (156, ⟨2, impl_IsValidEngine_2_ac, [(3, none)]⟩),
  (148, ⟨1, impl_IsValidEngine_ac, [(2, none)]⟩),
  (331, ⟨1, impl_OldestReadable_ac, [(2, none)]⟩),
  (120, ⟨2, laws_eqVersion_ac, [(4, none)]⟩),
  (119, ⟨2, laws_eqVersionS_ac, [(4, none)]⟩),
  (118, ⟨2, laws_eqVersionSS_ac, [(4, none)]⟩),
  (97, ⟨2, laws_eqStore_ac, [(4, none)]⟩),
  (35, ⟨2, laws_eqReadMark_ac, [(4, none)]⟩),
  (34, ⟨2, laws_eqReadMarkS_ac, [(4, none)]⟩),
  (36, ⟨2, laws_eqWrite_ac, [(4, none)]⟩),
  (33, ⟨2, laws_eqWriteS_ac, [(4, none)]⟩),
  (177, ⟨2, laws_eqTransaction_ac, [(4, none)]⟩),
  (176, ⟨2, laws_eqTransactionS_ac, [(4, none)]⟩),
  (178, ⟨2, laws_eqLock_ac, [(4, none)]⟩),
  (175, ⟨2, laws_eqLockS_ac, [(4, none)]⟩),
  (179, ⟨2, laws_eqWait_ac, [(4, none)]⟩),
  (174, ⟨2, laws_eqWaitS_ac, [(4, none)]⟩),
  (125, ⟨2, laws_eqEngine_ac, [(4, none)]⟩),
  (330, ⟨1, laws_FnExactOldestReadable_ac, [(2, none)]⟩)]
theorem tbl_all : AllMatch Try.prog rho tbl := ⟨laws_szVersionS_match, laws_szVersionSS_match, laws_szStore_match, laws_szReadMarkS_match, laws_szWriteS_match, laws_szTransaction_match, laws_szTransactionS_match, laws_szLockS_match, laws_szWaitS_match, laws_szEngine_match, spec_l1In_match, spec_IsValidVersion_match, spec_IsValidChain_match, spec_IsValidStore_match, spec_l5Before_match, spec_IsValidTransaction_match, spec_AreLocks_match, spec_AreWaits_match, spec_LastStamp_match, spec_FindVersion_match, spec_ReadsExist_match, spec_FindTransaction_match, spec_l13Active_match, spec_IsValidEngine_match, spec_OldestReadable_match, laws_toVersion_match, laws_toVersionS_match, laws_toVersionSS_match, laws_toStore_match, laws_toReadMark_match, laws_toReadMarkS_match, laws_toWrite_match, laws_toWriteS_match, laws_toTransaction_match, laws_toTransactionS_match, laws_toLock_match, laws_toLockS_match, laws_toWait_match, laws_toWaitS_match, laws_toEngine_match, slices_IndexFunc_g115_match, slices_ContainsFunc_g114_match, impl_in_match, impl_isValue_match, impl_isID_match, impl_IsValidVersion_match, impl_IsValidChain_match, impl_IsValidStore_1_match, impl_IsValidStore_match, impl_isKey_match, impl_AreLocks_match, impl_AreWaits_match, impl_Store_lastStamp_match, impl_isScheme_match, impl_IsStamp_match, cmp_isNaN_g15_match, cmp_Compare_g13_match, cmp_Or_g14_match, impl_compareMarks_match, impl_areReads_match, impl_areWrites_match, impl_IsValidTransaction_match, slices_IndexFunc_g163_match, slices_ContainsFunc_g162_match, slices_IndexFunc_g167_match, impl_FindVersion_1_match, impl_FindVersion_match, impl_Store_find_match, impl_Store_readsExist_1_match, impl_Store_readsExist_match, impl_Engine_areTransactions_match, slices_IndexFunc_g168_match, slices_ContainsFunc_g155_match, slices_IndexFunc_g172_match, impl_FindTransaction_1_match, impl_FindTransaction_match, impl_Engine_isActive_match, impl_IsValidEngine_1_match, slices_IndexFunc_g173_match, slices_ContainsFunc_g157_match, impl_IsValidEngine_2_match, impl_IsValidEngine_match, impl_OldestReadable_match, laws_eqVersion_match, laws_eqVersionS_match, laws_eqVersionSS_match, laws_eqStore_match, laws_eqReadMark_match, laws_eqReadMarkS_match, laws_eqWrite_match, laws_eqWriteS_match, laws_eqTransaction_match, laws_eqTransactionS_match, laws_eqLock_match, laws_eqLockS_match, laws_eqWait_match, laws_eqWaitS_match, laws_eqEngine_match, laws_FnExactOldestReadable_match, trivial⟩
noncomputable abbrev Ev : Env := EnvW (look tbl)
theorem good : Good Try.prog rho Ev := good_W (tbl_ok tbl_all) (by kernel_rfl)
theorem g_laws_szVersionS : G_laws_szVersionS Ev := ⟨is_W rfl⟩
theorem g_laws_szVersionSS : G_laws_szVersionSS Ev := ⟨is_W rfl, g_laws_szVersionS⟩
theorem g_laws_szStore : G_laws_szStore Ev := ⟨is_W rfl, g_laws_szVersionSS⟩
theorem g_laws_szReadMarkS : G_laws_szReadMarkS Ev := ⟨is_W rfl⟩
theorem g_laws_szWriteS : G_laws_szWriteS Ev := ⟨is_W rfl⟩
theorem g_laws_szTransaction : G_laws_szTransaction Ev := ⟨is_W rfl, g_laws_szReadMarkS, g_laws_szWriteS⟩
theorem g_laws_szTransactionS : G_laws_szTransactionS Ev := ⟨is_W rfl, g_laws_szTransaction⟩
theorem g_laws_szLockS : G_laws_szLockS Ev := ⟨is_W rfl⟩
theorem g_laws_szWaitS : G_laws_szWaitS Ev := ⟨is_W rfl⟩
theorem g_laws_szEngine : G_laws_szEngine Ev := ⟨is_W rfl, g_laws_szStore, g_laws_szTransactionS, g_laws_szLockS, g_laws_szWaitS⟩
theorem g_spec_l1In : G_spec_l1In Ev := ⟨is_W rfl⟩
theorem g_spec_IsValidVersion : G_spec_IsValidVersion Ev := ⟨is_W rfl, g_spec_l1In⟩
theorem g_spec_IsValidChain : G_spec_IsValidChain Ev := ⟨is_W rfl, g_spec_IsValidVersion⟩
theorem g_spec_IsValidStore : G_spec_IsValidStore Ev := ⟨is_W rfl, g_spec_IsValidChain⟩
theorem g_spec_l5Before : G_spec_l5Before Ev := ⟨is_W rfl⟩
theorem g_spec_IsValidTransaction : G_spec_IsValidTransaction Ev := ⟨is_W rfl, g_spec_l1In, g_spec_l5Before⟩
theorem g_spec_AreLocks : G_spec_AreLocks Ev := ⟨is_W rfl, g_spec_l1In⟩
theorem g_spec_AreWaits : G_spec_AreWaits Ev := ⟨is_W rfl, g_spec_l1In⟩
theorem g_spec_LastStamp : G_spec_LastStamp Ev := ⟨is_W rfl, g_spec_IsValidStore⟩
theorem g_spec_FindVersion : G_spec_FindVersion Ev := ⟨is_W rfl⟩
theorem g_spec_ReadsExist : G_spec_ReadsExist Ev := ⟨is_W rfl, g_spec_IsValidStore, g_spec_IsValidTransaction, g_spec_FindVersion⟩
theorem g_spec_FindTransaction : G_spec_FindTransaction Ev := ⟨is_W rfl⟩
theorem g_spec_l13Active : G_spec_l13Active Ev := ⟨is_W rfl, g_spec_FindTransaction⟩
theorem g_spec_IsValidEngine : G_spec_IsValidEngine Ev := ⟨is_W rfl, g_spec_IsValidStore, g_spec_IsValidTransaction, g_spec_l1In, g_spec_AreLocks, g_spec_AreWaits, g_spec_LastStamp, g_spec_ReadsExist, g_spec_l13Active⟩
theorem g_spec_OldestReadable : G_spec_OldestReadable Ev := ⟨is_W rfl, g_spec_IsValidEngine⟩
theorem g_laws_toVersion : G_laws_toVersion Ev := ⟨is_W rfl⟩
theorem g_laws_toVersionS : G_laws_toVersionS Ev := ⟨is_W rfl, g_laws_toVersion⟩
theorem g_laws_toVersionSS : G_laws_toVersionSS Ev := ⟨is_W rfl, g_laws_toVersionS⟩
theorem g_laws_toStore : G_laws_toStore Ev := ⟨is_W rfl, g_laws_toVersionSS⟩
theorem g_laws_toReadMark : G_laws_toReadMark Ev := ⟨is_W rfl⟩
theorem g_laws_toReadMarkS : G_laws_toReadMarkS Ev := ⟨is_W rfl, g_laws_toReadMark⟩
theorem g_laws_toWrite : G_laws_toWrite Ev := ⟨is_W rfl⟩
theorem g_laws_toWriteS : G_laws_toWriteS Ev := ⟨is_W rfl, g_laws_toWrite⟩
theorem g_laws_toTransaction : G_laws_toTransaction Ev := ⟨is_W rfl, g_laws_toReadMarkS, g_laws_toWriteS⟩
theorem g_laws_toTransactionS : G_laws_toTransactionS Ev := ⟨is_W rfl, g_laws_toTransaction⟩
theorem g_laws_toLock : G_laws_toLock Ev := ⟨is_W rfl⟩
theorem g_laws_toLockS : G_laws_toLockS Ev := ⟨is_W rfl, g_laws_toLock⟩
theorem g_laws_toWait : G_laws_toWait Ev := ⟨is_W rfl⟩
theorem g_laws_toWaitS : G_laws_toWaitS Ev := ⟨is_W rfl, g_laws_toWait⟩
theorem g_laws_toEngine : G_laws_toEngine Ev := ⟨is_W rfl, g_laws_toStore, g_laws_toTransactionS, g_laws_toLockS, g_laws_toWaitS⟩
theorem g_slices_IndexFunc_g115 : G_slices_IndexFunc_g115 Ev := ⟨is_W rfl⟩
theorem g_slices_ContainsFunc_g114 : G_slices_ContainsFunc_g114 Ev := ⟨is_W rfl, g_slices_IndexFunc_g115⟩
theorem g_impl_in : G_impl_in Ev := ⟨is_W rfl⟩
theorem g_impl_isValue : G_impl_isValue Ev := ⟨is_W rfl, g_impl_in⟩
theorem g_impl_isID : G_impl_isID Ev := ⟨is_W rfl, g_impl_in⟩
theorem g_impl_IsValidVersion : G_impl_IsValidVersion Ev := ⟨is_W rfl, g_impl_isValue, g_impl_in, g_impl_isID⟩
theorem g_impl_IsValidChain : G_impl_IsValidChain Ev := ⟨is_W rfl, g_impl_IsValidVersion⟩
theorem g_impl_IsValidStore_1 : G_impl_IsValidStore_1 Ev := ⟨is_W rfl, g_impl_IsValidChain⟩
theorem g_impl_IsValidStore : G_impl_IsValidStore Ev := ⟨is_W rfl, g_slices_ContainsFunc_g114, g_impl_IsValidStore_1⟩
theorem g_impl_isKey : G_impl_isKey Ev := ⟨is_W rfl, g_impl_in⟩
theorem g_impl_AreLocks : G_impl_AreLocks Ev := ⟨is_W rfl, g_impl_isKey, g_impl_isID⟩
theorem g_impl_AreWaits : G_impl_AreWaits Ev := ⟨is_W rfl, g_impl_isID⟩
theorem g_impl_Store_lastStamp : G_impl_Store_lastStamp Ev := ⟨is_W rfl⟩
theorem g_impl_isScheme : G_impl_isScheme Ev := ⟨is_W rfl, g_impl_in⟩
theorem g_impl_IsStamp : G_impl_IsStamp Ev := ⟨is_W rfl, g_impl_in⟩
theorem g_cmp_isNaN_g15 : G_cmp_isNaN_g15 Ev := ⟨is_W rfl⟩
theorem g_cmp_Compare_g13 : G_cmp_Compare_g13 Ev := ⟨is_W rfl, g_cmp_isNaN_g15⟩
theorem g_cmp_Or_g14 : G_cmp_Or_g14 Ev := ⟨is_W rfl⟩
theorem g_impl_compareMarks : G_impl_compareMarks Ev := ⟨is_W rfl, g_cmp_Compare_g13, g_cmp_Or_g14⟩
theorem g_impl_areReads : G_impl_areReads Ev := ⟨is_W rfl, g_impl_isKey, g_impl_in, g_impl_compareMarks⟩
theorem g_impl_areWrites : G_impl_areWrites Ev := ⟨is_W rfl, g_impl_isKey, g_impl_isValue⟩
theorem g_impl_IsValidTransaction : G_impl_IsValidTransaction Ev := ⟨is_W rfl, g_impl_in, g_impl_isID, g_impl_isScheme, g_impl_IsStamp, g_impl_areReads, g_impl_areWrites⟩
theorem g_slices_IndexFunc_g163 : G_slices_IndexFunc_g163 Ev := ⟨is_W rfl⟩
theorem g_slices_ContainsFunc_g162 : G_slices_ContainsFunc_g162 Ev := ⟨is_W rfl, g_slices_IndexFunc_g163⟩
theorem g_slices_IndexFunc_g167 : G_slices_IndexFunc_g167 Ev := ⟨is_W rfl⟩
theorem g_impl_FindVersion_1 : G_impl_FindVersion_1 Ev := ⟨is_W rfl⟩
theorem g_impl_FindVersion : G_impl_FindVersion Ev := ⟨is_W rfl, g_slices_IndexFunc_g167, g_impl_FindVersion_1⟩
theorem g_impl_Store_find : G_impl_Store_find Ev := ⟨is_W rfl, g_impl_FindVersion⟩
theorem g_impl_Store_readsExist_1 : G_impl_Store_readsExist_1 Ev := ⟨is_W rfl, g_impl_Store_find⟩
theorem g_impl_Store_readsExist : G_impl_Store_readsExist Ev := ⟨is_W rfl, g_slices_ContainsFunc_g162, g_impl_Store_readsExist_1⟩
theorem g_impl_Engine_areTransactions : G_impl_Engine_areTransactions Ev := ⟨is_W rfl, g_impl_IsValidTransaction, g_impl_Store_readsExist⟩
theorem g_slices_IndexFunc_g168 : G_slices_IndexFunc_g168 Ev := ⟨is_W rfl⟩
theorem g_slices_ContainsFunc_g155 : G_slices_ContainsFunc_g155 Ev := ⟨is_W rfl, g_slices_IndexFunc_g168⟩
theorem g_slices_IndexFunc_g172 : G_slices_IndexFunc_g172 Ev := ⟨is_W rfl⟩
theorem g_impl_FindTransaction_1 : G_impl_FindTransaction_1 Ev := ⟨is_W rfl⟩
theorem g_impl_FindTransaction : G_impl_FindTransaction Ev := ⟨is_W rfl, g_slices_IndexFunc_g172, g_impl_FindTransaction_1⟩
theorem g_impl_Engine_isActive : G_impl_Engine_isActive Ev := ⟨is_W rfl, g_impl_FindTransaction⟩
theorem g_impl_IsValidEngine_1 : G_impl_IsValidEngine_1 Ev := ⟨is_W rfl, g_impl_Engine_isActive⟩
theorem g_slices_IndexFunc_g173 : G_slices_IndexFunc_g173 Ev := ⟨is_W rfl⟩
theorem g_slices_ContainsFunc_g157 : G_slices_ContainsFunc_g157 Ev := ⟨is_W rfl, g_slices_IndexFunc_g173⟩
theorem g_impl_IsValidEngine_2 : G_impl_IsValidEngine_2 Ev := ⟨is_W rfl, g_impl_Engine_isActive⟩
theorem g_impl_IsValidEngine : G_impl_IsValidEngine Ev := ⟨is_W rfl, g_impl_IsValidStore, g_impl_in, g_impl_AreLocks, g_impl_AreWaits, g_impl_Store_lastStamp, g_impl_Engine_areTransactions, g_slices_ContainsFunc_g155, g_impl_IsValidEngine_1, g_slices_ContainsFunc_g157, g_impl_IsValidEngine_2⟩
theorem g_impl_OldestReadable : G_impl_OldestReadable Ev := ⟨is_W rfl, g_impl_IsValidEngine⟩
theorem g_laws_eqVersion : G_laws_eqVersion Ev := ⟨is_W rfl⟩
theorem g_laws_eqVersionS : G_laws_eqVersionS Ev := ⟨is_W rfl, g_laws_eqVersion⟩
theorem g_laws_eqVersionSS : G_laws_eqVersionSS Ev := ⟨is_W rfl, g_laws_eqVersionS⟩
theorem g_laws_eqStore : G_laws_eqStore Ev := ⟨is_W rfl, g_laws_eqVersionSS⟩
theorem g_laws_eqReadMark : G_laws_eqReadMark Ev := ⟨is_W rfl⟩
theorem g_laws_eqReadMarkS : G_laws_eqReadMarkS Ev := ⟨is_W rfl, g_laws_eqReadMark⟩
theorem g_laws_eqWrite : G_laws_eqWrite Ev := ⟨is_W rfl⟩
theorem g_laws_eqWriteS : G_laws_eqWriteS Ev := ⟨is_W rfl, g_laws_eqWrite⟩
theorem g_laws_eqTransaction : G_laws_eqTransaction Ev := ⟨is_W rfl, g_laws_eqReadMarkS, g_laws_eqWriteS⟩
theorem g_laws_eqTransactionS : G_laws_eqTransactionS Ev := ⟨is_W rfl, g_laws_eqTransaction⟩
theorem g_laws_eqLock : G_laws_eqLock Ev := ⟨is_W rfl⟩
theorem g_laws_eqLockS : G_laws_eqLockS Ev := ⟨is_W rfl, g_laws_eqLock⟩
theorem g_laws_eqWait : G_laws_eqWait Ev := ⟨is_W rfl⟩
theorem g_laws_eqWaitS : G_laws_eqWaitS Ev := ⟨is_W rfl, g_laws_eqWait⟩
theorem g_laws_eqEngine : G_laws_eqEngine Ev := ⟨is_W rfl, g_laws_eqStore, g_laws_eqTransactionS, g_laws_eqLockS, g_laws_eqWaitS⟩
theorem g_laws_FnExactOldestReadable : G_laws_FnExactOldestReadable Ev := ⟨is_W rfl, g_laws_szEngine, g_spec_OldestReadable, g_laws_toEngine, g_impl_OldestReadable, g_laws_eqEngine⟩
end Go.Proofs.Ytcmkhpjehecloaa.Am.FnExactOldestReadable
