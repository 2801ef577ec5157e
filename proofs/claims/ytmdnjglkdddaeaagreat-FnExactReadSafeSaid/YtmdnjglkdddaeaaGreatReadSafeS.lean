import Derived.Test.YtmdnjglkdddaeaaGreatChecked
import Derived.KernelRfl
import Derived.Test.YtmdnjglkdddaeaaGreatAmW
import Derived.Test.YtmdnjglkdddaeaaGreatReadSafeF0
import Derived.Test.YtmdnjglkdddaeaaGreatReadSafeF1
namespace Go.Proofs.YtmdnjglkdddaeaaGreat.Am.FnExactReadSafe
open Go Go.Proofs
set_option linter.unusedVariables false
set_option maxRecDepth 100000

/-- Which function of the program each number names. -/
def rho (m : Nat) : FuncId := match [(6, 81), (9, 140), (10, 121), (11, 129), (13, 175), (14, 174), (15, 176), (23, 37), (24, 36), (27, 45), (28, 44), (29, 93), (30, 94), (33, 53), (34, 52), (35, 105), (36, 106), (70, 112), (71, 150), (72, 160), (73, 161), (74, 162), (75, 171), (76, 172), (93, 10), (97, 13), (99, 7), (100, 35), (101, 85), (102, 64), (103, 109), (104, 149), (105, 165), (106, 114), (107, 43), (108, 92), (109, 142), (110, 70), (111, 130), (112, 118), (113, 153), (114, 152), (115, 166), (116, 154), (117, 167), (118, 51), (119, 104), (120, 148), (124, 21), (125, 23), (128, 19), (129, 62), (130, 61), (131, 60), (132, 8), (133, 63), (135, 113), (136, 86), (137, 110), (138, 111), (139, 87), (140, 91), (141, 82), (142, 68), (143, 67), (144, 66), (145, 11), (146, 116), (147, 117), (148, 69), (150, 119), (151, 120), (152, 122), (153, 123), (154, 125), (155, 124), (156, 128), (157, 127), (158, 156), (159, 155), (160, 168), (161, 170), (162, 169), (163, 173), (164, 102), (165, 147), (166, 164), (167, 163), (168, 157), (169, 126), (170, 83), (171, 138), (172, 135), (173, 158), (174, 74), (175, 73), (176, 72), (177, 14), (178, 132), (179, 133), (182, 151), (183, 89), (184, 131), (185, 159), (186, 146), (189, 115), (192, 65), (193, 71), (201, 4), (202, 22), (203, 20)].lookup m with | some f => f | none => 0
theorem laws_szVersionS_match : matchFn Tryz.prog rho 101 2 laws_szVersionS_ac [(4, none)] = true := by kernel_rfl
theorem laws_szVersionSS_match : matchFn Tryz.prog rho 100 2 laws_szVersionSS_ac [(4, none)] = true := by kernel_rfl
theorem laws_szStore_match : matchFn Tryz.prog rho 99 2 laws_szStore_ac [(4, none)] = true := by kernel_rfl
theorem laws_szReadMarkS_match : matchFn Tryz.prog rho 24 2 laws_szReadMarkS_ac [(4, none)] = true := by kernel_rfl
theorem laws_szWriteS_match : matchFn Tryz.prog rho 23 2 laws_szWriteS_ac [(4, none)] = true := by kernel_rfl
theorem laws_szTransaction_match : matchFn Tryz.prog rho 132 2 laws_szTransaction_ac [(4, none)] = true := by kernel_rfl
theorem laws_szTransactionS_match : matchFn Tryz.prog rho 131 2 laws_szTransactionS_ac [(4, none)] = true := by kernel_rfl
theorem laws_szLockS_match : matchFn Tryz.prog rho 130 2 laws_szLockS_ac [(4, none)] = true := by kernel_rfl
theorem laws_szWaitS_match : matchFn Tryz.prog rho 129 2 laws_szWaitS_ac [(4, none)] = true := by kernel_rfl
theorem laws_szEngine_match : matchFn Tryz.prog rho 128 2 laws_szEngine_ac [(4, none)] = true := by kernel_rfl
theorem spec_l1In_match : matchFn Tryz.prog rho 6 3 spec_l1In_ac [(6, none)] = true := by kernel_rfl
theorem spec_FindVersion_match : matchFn Tryz.prog rho 140 2 spec_FindVersion_ac [(4, none)] = true := by kernel_rfl
theorem spec_IsValidVersion_match : matchFn Tryz.prog rho 105 1 spec_IsValidVersion_ac [(2, none)] = true := by kernel_rfl
theorem spec_IsValidChain_match : matchFn Tryz.prog rho 104 1 spec_IsValidChain_ac [(2, none)] = true := by kernel_rfl
theorem spec_IsValidStore_match : matchFn Tryz.prog rho 103 1 spec_IsValidStore_ac [(2, none)] = true := by kernel_rfl
theorem spec_l5Before_match : matchFn Tryz.prog rho 71 2 spec_l5Before_ac [(4, none)] = true := by kernel_rfl
theorem spec_IsValidTransaction_match : matchFn Tryz.prog rho 70 1 spec_IsValidTransaction_ac [(2, none)] = true := by kernel_rfl
theorem spec_ReadsExist_match : matchFn Tryz.prog rho 136 2 spec_ReadsExist_ac [(4, none)] = true := by kernel_rfl
theorem spec_LastStamp_match : matchFn Tryz.prog rho 139 1 spec_LastStamp_ac [(2, none)] = true := by kernel_rfl
theorem spec_AreLocks_match : matchFn Tryz.prog rho 137 1 spec_AreLocks_ac [(2, none)] = true := by kernel_rfl
theorem spec_AreWaits_match : matchFn Tryz.prog rho 138 1 spec_AreWaits_ac [(2, none)] = true := by kernel_rfl
theorem spec_FindTransaction_match : matchFn Tryz.prog rho 141 2 spec_FindTransaction_ac [(4, none)] = true := by kernel_rfl
theorem spec_l13Active_match : matchFn Tryz.prog rho 135 2 spec_l13Active_ac [(4, none)] = true := by kernel_rfl
theorem spec_IsValidEngine_match : matchFn Tryz.prog rho 133 1 spec_IsValidEngine_ac [(2, none)] = true := by kernel_rfl
theorem spec_VersionAt_match : matchFn Tryz.prog rho 106 2 spec_VersionAt_ac [(4, none)] = true := by kernel_rfl
theorem spec_ReadAt_match : matchFn Tryz.prog rho 102 3 spec_ReadAt_ac [(6, some (true, 5)), (7, none)] = true := by kernel_rfl
theorem spec_RefreshHigh_match : matchFn Tryz.prog rho 183 2 spec_RefreshHigh_ac [(4, none)] = true := by kernel_rfl
theorem spec_UnsafeBecause_match : matchFn Tryz.prog rho 182 2 spec_UnsafeBecause_ac [(4, none)] = true := by kernel_rfl
theorem spec_IsSafe_match : matchFn Tryz.prog rho 189 2 spec_IsSafe_ac [(4, none)] = true := by kernel_rfl
theorem spec_SafeStamp_match : matchFn Tryz.prog rho 192 1 spec_SafeStamp_ac [(2, none)] = true := by kernel_rfl
theorem spec_ReadSafe_match : matchFn Tryz.prog rho 203 2 spec_ReadSafe_ac [(4, none), (5, none)] = true := by kernel_rfl
theorem laws_toVersion_match : matchFn Tryz.prog rho 109 1 laws_toVersion_ac [(2, some (true, 5))] = true := by kernel_rfl
theorem laws_toVersionS_match : matchFn Tryz.prog rho 108 1 laws_toVersionS_ac [(2, none)] = true := by kernel_rfl
theorem laws_toVersionSS_match : matchFn Tryz.prog rho 107 1 laws_toVersionSS_ac [(2, none)] = true := by kernel_rfl
theorem laws_toStore_match : matchFn Tryz.prog rho 93 1 laws_toStore_ac [(2, some (true, 1))] = true := by kernel_rfl
theorem laws_toReadMark_match : matchFn Tryz.prog rho 29 1 laws_toReadMark_ac [(2, some (true, 2))] = true := by kernel_rfl
theorem laws_toReadMarkS_match : matchFn Tryz.prog rho 28 1 laws_toReadMarkS_ac [(2, none)] = true := by kernel_rfl
theorem laws_toWrite_match : matchFn Tryz.prog rho 30 1 laws_toWrite_ac [(2, some (true, 2))] = true := by kernel_rfl
theorem laws_toWriteS_match : matchFn Tryz.prog rho 27 1 laws_toWriteS_ac [(2, none)] = true := by kernel_rfl
theorem laws_toTransaction_match : matchFn Tryz.prog rho 145 1 laws_toTransaction_ac [(2, some (true, 9))] = true := by kernel_rfl
theorem laws_toTransactionS_match : matchFn Tryz.prog rho 144 1 laws_toTransactionS_ac [(2, none)] = true := by kernel_rfl
theorem laws_toLock_match : matchFn Tryz.prog rho 146 1 laws_toLock_ac [(2, some (true, 2))] = true := by kernel_rfl
theorem laws_toLockS_match : matchFn Tryz.prog rho 143 1 laws_toLockS_ac [(2, none)] = true := by kernel_rfl
theorem laws_toWait_match : matchFn Tryz.prog rho 147 1 laws_toWait_ac [(2, some (true, 2))] = true := by kernel_rfl
theorem laws_toWaitS_match : matchFn Tryz.prog rho 142 1 laws_toWaitS_ac [(2, none)] = true := by kernel_rfl
theorem laws_toEngine_match : matchFn Tryz.prog rho 124 1 laws_toEngine_ac [(2, some (true, 6))] = true := by kernel_rfl
theorem slices_IndexFunc_g115_match : matchFn Tryz.prog rho 115 2 slices_IndexFunc_g115_ac [(4, none)] = true := by kernel_rfl
theorem slices_ContainsFunc_g114_match : matchFn Tryz.prog rho 114 2 slices_ContainsFunc_g114_ac [(4, none)] = true := by kernel_rfl
theorem impl_in_match : matchFn Tryz.prog rho 10 3 impl_in_ac [(6, none)] = true := by kernel_rfl
theorem impl_isID_match : matchFn Tryz.prog rho 9 1 impl_isID_ac [(2, none)] = true := by kernel_rfl
theorem impl_isValue_match : matchFn Tryz.prog rho 76 1 impl_isValue_ac [(2, none)] = true := by kernel_rfl
theorem impl_IsValidVersion_match : matchFn Tryz.prog rho 117 1 impl_IsValidVersion_ac [(2, none)] = true := by kernel_rfl
theorem impl_IsValidChain_match : matchFn Tryz.prog rho 116 1 impl_IsValidChain_ac [(2, none)] = true := by kernel_rfl
theorem impl_IsValidStore_1_match : matchFn Tryz.prog rho 113 1 impl_IsValidStore_1_ac [(2, none)] = true := by kernel_rfl
theorem impl_IsValidStore_match : matchFn Tryz.prog rho 112 1 impl_IsValidStore_ac [(2, none)] = true := by kernel_rfl
theorem impl_isKey_match : matchFn Tryz.prog rho 11 1 impl_isKey_ac [(2, none)] = true := by kernel_rfl
theorem impl_AreLocks_match : matchFn Tryz.prog rho 150 1 impl_AreLocks_ac [(2, none)] = true := by kernel_rfl
theorem impl_AreWaits_match : matchFn Tryz.prog rho 151 1 impl_AreWaits_ac [(2, none)] = true := by kernel_rfl
theorem impl_Store_lastStamp_match : matchFn Tryz.prog rho 152 1 impl_Store_lastStamp_ac [(2, none)] = true := by kernel_rfl
theorem impl_IsStamp_match : matchFn Tryz.prog rho 72 1 impl_IsStamp_ac [(2, none)] = true := by kernel_rfl
theorem cmp_Or_g14_match : matchFn Tryz.prog rho 14 1 cmp_Or_g14_ac [(2, none)] = true := by kernel_rfl
theorem cmp_isNaN_g15_match : matchFn Tryz.prog rho 15 1 cmp_isNaN_g15_ac [(2, none)] = true := by kernel_rfl
theorem cmp_Compare_g13_match : matchFn Tryz.prog rho 13 2 cmp_Compare_g13_ac [(4, none)] = true := by kernel_rfl
theorem impl_compareMarks_match : matchFn Tryz.prog rho 75 2 impl_compareMarks_ac [(4, none)] = true := by kernel_rfl
theorem impl_areReads_match : matchFn Tryz.prog rho 73 1 impl_areReads_ac [(2, none)] = true := by kernel_rfl
theorem impl_areWrites_match : matchFn Tryz.prog rho 74 1 impl_areWrites_ac [(2, none)] = true := by kernel_rfl
theorem impl_isScheme_match : matchFn Tryz.prog rho 160 1 impl_isScheme_ac [(2, none)] = true := by kernel_rfl
theorem impl_IsValidTransaction_match : matchFn Tryz.prog rho 159 1 impl_IsValidTransaction_ac [(2, none)] = true := by kernel_rfl
theorem slices_IndexFunc_g163_match : matchFn Tryz.prog rho 163 2 slices_IndexFunc_g163_ac [(4, none)] = true := by kernel_rfl
theorem slices_ContainsFunc_g162_match : matchFn Tryz.prog rho 162 2 slices_ContainsFunc_g162_ac [(4, none)] = true := by kernel_rfl
theorem slices_IndexFunc_g167_match : matchFn Tryz.prog rho 167 2 slices_IndexFunc_g167_ac [(4, none)] = true := by kernel_rfl
theorem impl_FindVersion_1_match : matchFn Tryz.prog rho 166 2 impl_FindVersion_1_ac [(3, none)] = true := by kernel_rfl
theorem impl_FindVersion_match : matchFn Tryz.prog rho 165 2 impl_FindVersion_ac [(4, none)] = true := by kernel_rfl
theorem impl_Store_find_match : matchFn Tryz.prog rho 164 2 impl_Store_find_ac [(4, none)] = true := by kernel_rfl
theorem impl_Store_readsExist_1_match : matchFn Tryz.prog rho 161 2 impl_Store_readsExist_1_ac [(3, none)] = true := by kernel_rfl
theorem impl_Store_readsExist_match : matchFn Tryz.prog rho 158 2 impl_Store_readsExist_ac [(4, none)] = true := by kernel_rfl
theorem impl_Engine_areTransactions_match : matchFn Tryz.prog rho 153 1 impl_Engine_areTransactions_ac [(2, none)] = true := by kernel_rfl
theorem slices_IndexFunc_g168_match : matchFn Tryz.prog rho 168 2 slices_IndexFunc_g168_ac [(4, none)] = true := by kernel_rfl
theorem slices_ContainsFunc_g155_match : matchFn Tryz.prog rho 155 2 slices_ContainsFunc_g155_ac [(4, none)] = true := by kernel_rfl
theorem slices_IndexFunc_g172_match : matchFn Tryz.prog rho 172 2 slices_IndexFunc_g172_ac [(4, none)] = true := by kernel_rfl
theorem impl_FindTransaction_1_match : matchFn Tryz.prog rho 171 2 impl_FindTransaction_1_ac [(3, none)] = true := by kernel_rfl
theorem impl_FindTransaction_match : matchFn Tryz.prog rho 170 2 impl_FindTransaction_ac [(4, none)] = true := by kernel_rfl
theorem impl_Engine_isActive_match : matchFn Tryz.prog rho 169 2 impl_Engine_isActive_ac [(4, none)] = true := by kernel_rfl
theorem impl_IsValidEngine_1_match : matchFn Tryz.prog rho 154 2 impl_IsValidEngine_1_ac [(3, none)] = true := by kernel_rfl
theorem slices_IndexFunc_g173_match : matchFn Tryz.prog rho 173 2 slices_IndexFunc_g173_ac [(4, none)] = true := by kernel_rfl
theorem slices_ContainsFunc_g157_match : matchFn Tryz.prog rho 157 2 slices_ContainsFunc_g157_ac [(4, none)] = true := by kernel_rfl
theorem impl_IsValidEngine_2_match : matchFn Tryz.prog rho 156 2 impl_IsValidEngine_2_ac [(3, none)] = true := by kernel_rfl
theorem impl_IsValidEngine_match : matchFn Tryz.prog rho 148 1 impl_IsValidEngine_ac [(2, none)] = true := by kernel_rfl
theorem impl_versionAt_match : matchFn Tryz.prog rho 111 2 impl_versionAt_ac [(4, none)] = true := by kernel_rfl
theorem impl_ReadAt_match : matchFn Tryz.prog rho 110 3 impl_ReadAt_ac [(6, some (true, 5)), (7, none)] = true := by kernel_rfl
theorem impl_Store_refreshHigh_match : matchFn Tryz.prog rho 186 2 impl_Store_refreshHigh_ac [(4, none)] = true := by kernel_rfl
theorem impl_Engine_unsafe_match : matchFn Tryz.prog rho 185 3 impl_Engine_unsafe_ac [(6, none)] = true := by kernel_rfl
theorem impl_Engine_because_match : matchFn Tryz.prog rho 184 2 impl_Engine_because_ac [(4, none)] = true := by kernel_rfl
theorem impl_Engine_safe_match : matchFn Tryz.prog rho 193 1 impl_Engine_safe_ac [(2, none)] = true := by kernel_rfl
theorem impl_ReadSafe_match : matchFn Tryz.prog rho 202 2 impl_ReadSafe_ac [(4, none), (5, none)] = true := by kernel_rfl
theorem laws_eqVersion_match : matchFn Tryz.prog rho 120 2 laws_eqVersion_ac [(4, none)] = true := by kernel_rfl
theorem laws_eqVersionS_match : matchFn Tryz.prog rho 119 2 laws_eqVersionS_ac [(4, none)] = true := by kernel_rfl
theorem laws_eqVersionSS_match : matchFn Tryz.prog rho 118 2 laws_eqVersionSS_ac [(4, none)] = true := by kernel_rfl
theorem laws_eqStore_match : matchFn Tryz.prog rho 97 2 laws_eqStore_ac [(4, none)] = true := by kernel_rfl
theorem laws_eqReadMark_match : matchFn Tryz.prog rho 35 2 laws_eqReadMark_ac [(4, none)] = true := by kernel_rfl
theorem laws_eqReadMarkS_match : matchFn Tryz.prog rho 34 2 laws_eqReadMarkS_ac [(4, none)] = true := by kernel_rfl
theorem laws_eqWrite_match : matchFn Tryz.prog rho 36 2 laws_eqWrite_ac [(4, none)] = true := by kernel_rfl
theorem laws_eqWriteS_match : matchFn Tryz.prog rho 33 2 laws_eqWriteS_ac [(4, none)] = true := by kernel_rfl
theorem laws_eqTransaction_match : matchFn Tryz.prog rho 177 2 laws_eqTransaction_ac [(4, none)] = true := by kernel_rfl
theorem laws_eqTransactionS_match : matchFn Tryz.prog rho 176 2 laws_eqTransactionS_ac [(4, none)] = true := by kernel_rfl
theorem laws_eqLock_match : matchFn Tryz.prog rho 178 2 laws_eqLock_ac [(4, none)] = true := by kernel_rfl
theorem laws_eqLockS_match : matchFn Tryz.prog rho 175 2 laws_eqLockS_ac [(4, none)] = true := by kernel_rfl
theorem laws_eqWait_match : matchFn Tryz.prog rho 179 2 laws_eqWait_ac [(4, none)] = true := by kernel_rfl
theorem laws_eqWaitS_match : matchFn Tryz.prog rho 174 2 laws_eqWaitS_ac [(4, none)] = true := by kernel_rfl
theorem laws_eqEngine_match : matchFn Tryz.prog rho 125 2 laws_eqEngine_ac [(4, none)] = true := by kernel_rfl
theorem laws_FnExactReadSafe_match : matchFn Tryz.prog rho 201 2 laws_FnExactReadSafe_ac [(4, none)] = true := by kernel_rfl
def tbl : List (Nat × Fn) := [(101, ⟨2, laws_szVersionS_ac, [(4, none)]⟩),
  (100, ⟨2, laws_szVersionSS_ac, [(4, none)]⟩),
  (99, ⟨2, laws_szStore_ac, [(4, none)]⟩),
  (24, ⟨2, laws_szReadMarkS_ac, [(4, none)]⟩),
  (23, ⟨2, laws_szWriteS_ac, [(4, none)]⟩),
  (132, ⟨2, laws_szTransaction_ac, [(4, none)]⟩),
  (131, ⟨2, laws_szTransactionS_ac, [(4, none)]⟩),
  (130, ⟨2, laws_szLockS_ac, [(4, none)]⟩),
  (129, ⟨2, laws_szWaitS_ac, [(4, none)]⟩),
  (128, ⟨2, laws_szEngine_ac, [(4, none)]⟩),
  (6, ⟨3, spec_l1In_ac, [(6, none)]⟩),
  (140, ⟨2, spec_FindVersion_ac, [(4, none)]⟩),
  (105, ⟨1, spec_IsValidVersion_ac, [(2, none)]⟩),
  (104, ⟨1, spec_IsValidChain_ac, [(2, none)]⟩),
  (103, ⟨1, spec_IsValidStore_ac, [(2, none)]⟩),
  (71, ⟨2, spec_l5Before_ac, [(4, none)]⟩),
  (70, ⟨1, spec_IsValidTransaction_ac, [(2, none)]⟩),
  (136, ⟨2, spec_ReadsExist_ac, [(4, none)]⟩),
  (139, ⟨1, spec_LastStamp_ac, [(2, none)]⟩),
  (137, ⟨1, spec_AreLocks_ac, [(2, none)]⟩),
  (138, ⟨1, spec_AreWaits_ac, [(2, none)]⟩),
  (141, ⟨2, spec_FindTransaction_ac, [(4, none)]⟩),
  (135, ⟨2, spec_l13Active_ac, [(4, none)]⟩),
  (133, ⟨1, spec_IsValidEngine_ac, [(2, none)]⟩),
  (106, ⟨2, spec_VersionAt_ac, [(4, none)]⟩),
  (102, ⟨3, spec_ReadAt_ac, [(6, some (true, 5)), (7, none)]⟩),
  (183, ⟨2, spec_RefreshHigh_ac, [(4, none)]⟩),
  (182, ⟨2, spec_UnsafeBecause_ac, [(4, none)]⟩),
  (189, ⟨2, spec_IsSafe_ac, [(4, none)]⟩),
  (192, ⟨1, spec_SafeStamp_ac, [(2, none)]⟩),
  (203, ⟨2, spec_ReadSafe_ac, [(4, none), (5, none)]⟩),
  (109, ⟨1, laws_toVersion_ac, [(2, some (true, 5))]⟩),
  (108, ⟨1, laws_toVersionS_ac, [(2, none)]⟩),
  (107, ⟨1, laws_toVersionSS_ac, [(2, none)]⟩),
  (93, ⟨1, laws_toStore_ac, [(2, some (true, 1))]⟩),
  (29, ⟨1, laws_toReadMark_ac, [(2, some (true, 2))]⟩),
  (28, ⟨1, laws_toReadMarkS_ac, [(2, none)]⟩),
  (30, ⟨1, laws_toWrite_ac, [(2, some (true, 2))]⟩),
  (27, ⟨1, laws_toWriteS_ac, [(2, none)]⟩),
  (145, ⟨1, laws_toTransaction_ac, [(2, some (true, 9))]⟩),
  (144, ⟨1, laws_toTransactionS_ac, [(2, none)]⟩),
  (146, ⟨1, laws_toLock_ac, [(2, some (true, 2))]⟩),
  (143, ⟨1, laws_toLockS_ac, [(2, none)]⟩),
  (147, ⟨1, laws_toWait_ac, [(2, some (true, 2))]⟩),
  (142, ⟨1, laws_toWaitS_ac, [(2, none)]⟩),
  (124, ⟨1, laws_toEngine_ac, [(2, some (true, 6))]⟩),
  (115, ⟨2, slices_IndexFunc_g115_ac, [(4, none)]⟩),
  (114, ⟨2, slices_ContainsFunc_g114_ac, [(4, none)]⟩),
  (10, ⟨3, impl_in_ac, [(6, none)]⟩),
  (9, ⟨1, impl_isID_ac, [(2, none)]⟩),
  (76, ⟨1, impl_isValue_ac, [(2, none)]⟩),
  (117, ⟨1, impl_IsValidVersion_ac, [(2, none)]⟩),
  (116, ⟨1, impl_IsValidChain_ac, [(2, none)]⟩),
  (113, ⟨1, impl_IsValidStore_1_ac, [(2, none)]⟩),
  (112, ⟨1, impl_IsValidStore_ac, [(2, none)]⟩),
  (11, ⟨1, impl_isKey_ac, [(2, none)]⟩),
  (150, ⟨1, impl_AreLocks_ac, [(2, none)]⟩),
  (151, ⟨1, impl_AreWaits_ac, [(2, none)]⟩),
  (152, ⟨1, impl_Store_lastStamp_ac, [(2, none)]⟩),
  (72, ⟨1, impl_IsStamp_ac, [(2, none)]⟩),
  (14, ⟨1, cmp_Or_g14_ac, [(2, none)]⟩),
  (15, ⟨1, cmp_isNaN_g15_ac, [(2, none)]⟩),
  (13, ⟨2, cmp_Compare_g13_ac, [(4, none)]⟩),
  (75, ⟨2, impl_compareMarks_ac, [(4, none)]⟩),
  (73, ⟨1, impl_areReads_ac, [(2, none)]⟩),
  (74, ⟨1, impl_areWrites_ac, [(2, none)]⟩),
  (160, ⟨1, impl_isScheme_ac, [(2, none)]⟩),
  (159, ⟨1, impl_IsValidTransaction_ac, [(2, none)]⟩),
  (163, ⟨2, slices_IndexFunc_g163_ac, [(4, none)]⟩),
  (162, ⟨2, slices_ContainsFunc_g162_ac, [(4, none)]⟩),
  (167, ⟨2, slices_IndexFunc_g167_ac, [(4, none)]⟩),
  (166, ⟨2, impl_FindVersion_1_ac, [(3, none)]⟩),
  (165, ⟨2, impl_FindVersion_ac, [(4, none)]⟩),
  (164, ⟨2, impl_Store_find_ac, [(4, none)]⟩),
  (161, ⟨2, impl_Store_readsExist_1_ac, [(3, none)]⟩),
  (158, ⟨2, impl_Store_readsExist_ac, [(4, none)]⟩),
  (153, ⟨1, impl_Engine_areTransactions_ac, [(2, none)]⟩),
  (168, ⟨2, slices_IndexFunc_g168_ac, [(4, none)]⟩),
  (155, ⟨2, slices_ContainsFunc_g155_ac, [(4, none)]⟩),
  (172, ⟨2, slices_IndexFunc_g172_ac, [(4, none)]⟩),
  (171, ⟨2, impl_FindTransaction_1_ac, [(3, none)]⟩),
  (170, ⟨2, impl_FindTransaction_ac, [(4, none)]⟩),
  (169, ⟨2, impl_Engine_isActive_ac, [(4, none)]⟩),
  (154, ⟨2, impl_IsValidEngine_1_ac, [(3, none)]⟩),
  (173, ⟨2, slices_IndexFunc_g173_ac, [(4, none)]⟩),
  (157, ⟨2, slices_ContainsFunc_g157_ac, [(4, none)]⟩),
  (156, ⟨2, impl_IsValidEngine_2_ac, [(3, none)]⟩),
  (148, ⟨1, impl_IsValidEngine_ac, [(2, none)]⟩),
  (111, ⟨2, impl_versionAt_ac, [(4, none)]⟩),
  (110, ⟨3, impl_ReadAt_ac, [(6, some (true, 5)), (7, none)]⟩),
  (186, ⟨2, impl_Store_refreshHigh_ac, [(4, none)]⟩),
  (185, ⟨3, impl_Engine_unsafe_ac, [(6, none)]⟩),
  (184, ⟨2, impl_Engine_because_ac, [(4, none)]⟩),
  (193, ⟨1, impl_Engine_safe_ac, [(2, none)]⟩),
  (202, ⟨2, impl_ReadSafe_ac, [(4, none), (5, none)]⟩),
  (120, ⟨2, laws_eqVersion_ac, [(4, none)]⟩),
  (119, ⟨2, laws_eqVersionS_ac, [(4, none)]⟩),
  (118, ⟨2, laws_eqVersionSS_ac, [(4, none)]⟩),
  (97, ⟨2, laws_eqStore_ac, [(4, none)]⟩),
  (35, ⟨2, laws_eqReadMark_ac, [(4, none)]⟩),
  (34, ⟨2, laws_eqReadMarkS_ac, [(4, none)]⟩),
  (36, ⟨2, laws_eqWrite_ac, [(4, none)]⟩),
  (33, ⟨2, laws_eqWriteS_ac, [(4, none)]⟩),
  (177, ⟨2, laws_eqTransaction_ac, [(4, none)]⟩),
  (176, ⟨2, laws_eqTransactionS_ac, [(4, none)]⟩),
  (178, ⟨2, laws_eqLock_ac, [(4, none)]⟩),
  (175, ⟨2, laws_eqLockS_ac, [(4, none)]⟩),
  (179, ⟨2, laws_eqWait_ac, [(4, none)]⟩),
  (174, ⟨2, laws_eqWaitS_ac, [(4, none)]⟩),
  (125, ⟨2, laws_eqEngine_ac, [(4, none)]⟩),
  (201, ⟨2, laws_FnExactReadSafe_ac, [(4, none)]⟩)]
theorem tbl_all : AllMatch Tryz.prog rho tbl := ⟨laws_szVersionS_match, laws_szVersionSS_match, laws_szStore_match, laws_szReadMarkS_match, laws_szWriteS_match, laws_szTransaction_match, laws_szTransactionS_match, laws_szLockS_match, laws_szWaitS_match, laws_szEngine_match, spec_l1In_match, spec_FindVersion_match, spec_IsValidVersion_match, spec_IsValidChain_match, spec_IsValidStore_match, spec_l5Before_match, spec_IsValidTransaction_match, spec_ReadsExist_match, spec_LastStamp_match, spec_AreLocks_match, spec_AreWaits_match, spec_FindTransaction_match, spec_l13Active_match, spec_IsValidEngine_match, spec_VersionAt_match, spec_ReadAt_match, spec_RefreshHigh_match, spec_UnsafeBecause_match, spec_IsSafe_match, spec_SafeStamp_match, spec_ReadSafe_match, laws_toVersion_match, laws_toVersionS_match, laws_toVersionSS_match, laws_toStore_match, laws_toReadMark_match, laws_toReadMarkS_match, laws_toWrite_match, laws_toWriteS_match, laws_toTransaction_match, laws_toTransactionS_match, laws_toLock_match, laws_toLockS_match, laws_toWait_match, laws_toWaitS_match, laws_toEngine_match, slices_IndexFunc_g115_match, slices_ContainsFunc_g114_match, impl_in_match, impl_isID_match, impl_isValue_match, impl_IsValidVersion_match, impl_IsValidChain_match, impl_IsValidStore_1_match, impl_IsValidStore_match, impl_isKey_match, impl_AreLocks_match, impl_AreWaits_match, impl_Store_lastStamp_match, impl_IsStamp_match, cmp_Or_g14_match, cmp_isNaN_g15_match, cmp_Compare_g13_match, impl_compareMarks_match, impl_areReads_match, impl_areWrites_match, impl_isScheme_match, impl_IsValidTransaction_match, slices_IndexFunc_g163_match, slices_ContainsFunc_g162_match, slices_IndexFunc_g167_match, impl_FindVersion_1_match, impl_FindVersion_match, impl_Store_find_match, impl_Store_readsExist_1_match, impl_Store_readsExist_match, impl_Engine_areTransactions_match, slices_IndexFunc_g168_match, slices_ContainsFunc_g155_match, slices_IndexFunc_g172_match, impl_FindTransaction_1_match, impl_FindTransaction_match, impl_Engine_isActive_match, impl_IsValidEngine_1_match, slices_IndexFunc_g173_match, slices_ContainsFunc_g157_match, impl_IsValidEngine_2_match, impl_IsValidEngine_match, impl_versionAt_match, impl_ReadAt_match, impl_Store_refreshHigh_match, impl_Engine_unsafe_match, impl_Engine_because_match, impl_Engine_safe_match, impl_ReadSafe_match, laws_eqVersion_match, laws_eqVersionS_match, laws_eqVersionSS_match, laws_eqStore_match, laws_eqReadMark_match, laws_eqReadMarkS_match, laws_eqWrite_match, laws_eqWriteS_match, laws_eqTransaction_match, laws_eqTransactionS_match, laws_eqLock_match, laws_eqLockS_match, laws_eqWait_match, laws_eqWaitS_match, laws_eqEngine_match, laws_FnExactReadSafe_match, trivial⟩
noncomputable abbrev Ev : Env := EnvW noEnv (look tbl)
theorem good : Good Tryz.prog rho Ev := good_W (tbl_ok tbl_all) (by kernel_rfl) good_no
theorem g_laws_szVersionS : G_laws_szVersionS Ev := { is := is_W rfl }
theorem g_laws_szVersionSS : G_laws_szVersionSS Ev := { is := is_W rfl, c_laws_szVersionS := g_laws_szVersionS }
theorem g_laws_szStore : G_laws_szStore Ev := { is := is_W rfl, c_laws_szVersionSS := g_laws_szVersionSS }
theorem g_laws_szReadMarkS : G_laws_szReadMarkS Ev := { is := is_W rfl }
theorem g_laws_szWriteS : G_laws_szWriteS Ev := { is := is_W rfl }
theorem g_laws_szTransaction : G_laws_szTransaction Ev := { is := is_W rfl, c_laws_szReadMarkS := g_laws_szReadMarkS, c_laws_szWriteS := g_laws_szWriteS }
theorem g_laws_szTransactionS : G_laws_szTransactionS Ev := { is := is_W rfl, c_laws_szTransaction := g_laws_szTransaction }
theorem g_laws_szLockS : G_laws_szLockS Ev := { is := is_W rfl }
theorem g_laws_szWaitS : G_laws_szWaitS Ev := { is := is_W rfl }
theorem g_laws_szEngine : G_laws_szEngine Ev := { is := is_W rfl, c_laws_szStore := g_laws_szStore, c_laws_szTransactionS := g_laws_szTransactionS, c_laws_szLockS := g_laws_szLockS, c_laws_szWaitS := g_laws_szWaitS }
theorem g_spec_l1In : G_spec_l1In Ev := { is := is_W rfl }
theorem g_spec_FindVersion : G_spec_FindVersion Ev := { is := is_W rfl }
theorem g_spec_IsValidVersion : G_spec_IsValidVersion Ev := { is := is_W rfl, c_spec_l1In := g_spec_l1In }
theorem g_spec_IsValidChain : G_spec_IsValidChain Ev := { is := is_W rfl, c_spec_IsValidVersion := g_spec_IsValidVersion }
theorem g_spec_IsValidStore : G_spec_IsValidStore Ev := { is := is_W rfl, c_spec_IsValidChain := g_spec_IsValidChain }
theorem g_spec_l5Before : G_spec_l5Before Ev := { is := is_W rfl }
theorem g_spec_IsValidTransaction : G_spec_IsValidTransaction Ev := { is := is_W rfl, c_spec_l1In := g_spec_l1In, c_spec_l5Before := g_spec_l5Before }
theorem g_spec_ReadsExist : G_spec_ReadsExist Ev := { is := is_W rfl, c_spec_FindVersion := g_spec_FindVersion, c_spec_IsValidStore := g_spec_IsValidStore, c_spec_IsValidTransaction := g_spec_IsValidTransaction }
theorem g_spec_LastStamp : G_spec_LastStamp Ev := { is := is_W rfl, c_spec_IsValidStore := g_spec_IsValidStore }
theorem g_spec_AreLocks : G_spec_AreLocks Ev := { is := is_W rfl, c_spec_l1In := g_spec_l1In }
theorem g_spec_AreWaits : G_spec_AreWaits Ev := { is := is_W rfl, c_spec_l1In := g_spec_l1In }
theorem g_spec_FindTransaction : G_spec_FindTransaction Ev := { is := is_W rfl }
theorem g_spec_l13Active : G_spec_l13Active Ev := { is := is_W rfl, c_spec_FindTransaction := g_spec_FindTransaction }
theorem g_spec_IsValidEngine : G_spec_IsValidEngine Ev := { is := is_W rfl, c_spec_l1In := g_spec_l1In, c_spec_ReadsExist := g_spec_ReadsExist, c_spec_LastStamp := g_spec_LastStamp, c_spec_IsValidStore := g_spec_IsValidStore, c_spec_AreLocks := g_spec_AreLocks, c_spec_AreWaits := g_spec_AreWaits, c_spec_IsValidTransaction := g_spec_IsValidTransaction, c_spec_l13Active := g_spec_l13Active }
theorem g_spec_VersionAt : G_spec_VersionAt Ev := { is := is_W rfl, c_spec_IsValidChain := g_spec_IsValidChain }
theorem g_spec_ReadAt : G_spec_ReadAt Ev := { is := is_W rfl, c_spec_l1In := g_spec_l1In, c_spec_IsValidStore := g_spec_IsValidStore, c_spec_VersionAt := g_spec_VersionAt }
theorem g_spec_RefreshHigh : G_spec_RefreshHigh Ev := { is := is_W rfl, c_spec_ReadsExist := g_spec_ReadsExist, c_spec_FindVersion := g_spec_FindVersion }
theorem g_spec_UnsafeBecause : G_spec_UnsafeBecause Ev := { is := is_W rfl, c_spec_IsValidEngine := g_spec_IsValidEngine, c_spec_l1In := g_spec_l1In, c_spec_RefreshHigh := g_spec_RefreshHigh }
theorem g_spec_IsSafe : G_spec_IsSafe Ev := { is := is_W rfl, c_spec_IsValidEngine := g_spec_IsValidEngine, c_spec_l1In := g_spec_l1In, c_spec_UnsafeBecause := g_spec_UnsafeBecause }
theorem g_spec_SafeStamp : G_spec_SafeStamp Ev := { is := is_W rfl, c_spec_IsValidEngine := g_spec_IsValidEngine, c_spec_IsSafe := g_spec_IsSafe }
theorem g_spec_ReadSafe : G_spec_ReadSafe Ev := { is := is_W rfl, c_spec_IsValidEngine := g_spec_IsValidEngine, c_spec_ReadAt := g_spec_ReadAt, c_spec_SafeStamp := g_spec_SafeStamp }
theorem g_laws_toVersion : G_laws_toVersion Ev := { is := is_W rfl }
theorem g_laws_toVersionS : G_laws_toVersionS Ev := { is := is_W rfl, c_laws_toVersion := g_laws_toVersion }
theorem g_laws_toVersionSS : G_laws_toVersionSS Ev := { is := is_W rfl, c_laws_toVersionS := g_laws_toVersionS }
theorem g_laws_toStore : G_laws_toStore Ev := { is := is_W rfl, c_laws_toVersionSS := g_laws_toVersionSS }
theorem g_laws_toReadMark : G_laws_toReadMark Ev := { is := is_W rfl }
theorem g_laws_toReadMarkS : G_laws_toReadMarkS Ev := { is := is_W rfl, c_laws_toReadMark := g_laws_toReadMark }
theorem g_laws_toWrite : G_laws_toWrite Ev := { is := is_W rfl }
theorem g_laws_toWriteS : G_laws_toWriteS Ev := { is := is_W rfl, c_laws_toWrite := g_laws_toWrite }
theorem g_laws_toTransaction : G_laws_toTransaction Ev := { is := is_W rfl, c_laws_toReadMarkS := g_laws_toReadMarkS, c_laws_toWriteS := g_laws_toWriteS }
theorem g_laws_toTransactionS : G_laws_toTransactionS Ev := { is := is_W rfl, c_laws_toTransaction := g_laws_toTransaction }
theorem g_laws_toLock : G_laws_toLock Ev := { is := is_W rfl }
theorem g_laws_toLockS : G_laws_toLockS Ev := { is := is_W rfl, c_laws_toLock := g_laws_toLock }
theorem g_laws_toWait : G_laws_toWait Ev := { is := is_W rfl }
theorem g_laws_toWaitS : G_laws_toWaitS Ev := { is := is_W rfl, c_laws_toWait := g_laws_toWait }
theorem g_laws_toEngine : G_laws_toEngine Ev := { is := is_W rfl, c_laws_toStore := g_laws_toStore, c_laws_toTransactionS := g_laws_toTransactionS, c_laws_toLockS := g_laws_toLockS, c_laws_toWaitS := g_laws_toWaitS }
theorem g_slices_IndexFunc_g115 : G_slices_IndexFunc_g115 Ev := { is := is_W rfl }
theorem g_slices_ContainsFunc_g114 : G_slices_ContainsFunc_g114 Ev := { is := is_W rfl, c_slices_IndexFunc_g115 := g_slices_IndexFunc_g115 }
theorem g_impl_in : G_impl_in Ev := { is := is_W rfl }
theorem g_impl_isID : G_impl_isID Ev := { is := is_W rfl, c_impl_in := g_impl_in }
theorem g_impl_isValue : G_impl_isValue Ev := { is := is_W rfl, c_impl_in := g_impl_in }
theorem g_impl_IsValidVersion : G_impl_IsValidVersion Ev := { is := is_W rfl, c_impl_in := g_impl_in, c_impl_isID := g_impl_isID, c_impl_isValue := g_impl_isValue }
theorem g_impl_IsValidChain : G_impl_IsValidChain Ev := { is := is_W rfl, c_impl_IsValidVersion := g_impl_IsValidVersion }
theorem g_impl_IsValidStore_1 : G_impl_IsValidStore_1 Ev := { is := is_W rfl, c_impl_IsValidChain := g_impl_IsValidChain }
theorem g_impl_IsValidStore : G_impl_IsValidStore Ev := { is := is_W rfl, c_slices_ContainsFunc_g114 := g_slices_ContainsFunc_g114, c_impl_IsValidStore_1 := g_impl_IsValidStore_1 }
theorem g_impl_isKey : G_impl_isKey Ev := { is := is_W rfl, c_impl_in := g_impl_in }
theorem g_impl_AreLocks : G_impl_AreLocks Ev := { is := is_W rfl, c_impl_isKey := g_impl_isKey, c_impl_isID := g_impl_isID }
theorem g_impl_AreWaits : G_impl_AreWaits Ev := { is := is_W rfl, c_impl_isID := g_impl_isID }
theorem g_impl_Store_lastStamp : G_impl_Store_lastStamp Ev := { is := is_W rfl }
theorem g_impl_IsStamp : G_impl_IsStamp Ev := { is := is_W rfl, c_impl_in := g_impl_in }
theorem g_cmp_Or_g14 : G_cmp_Or_g14 Ev := { is := is_W rfl }
theorem g_cmp_isNaN_g15 : G_cmp_isNaN_g15 Ev := { is := is_W rfl }
theorem g_cmp_Compare_g13 : G_cmp_Compare_g13 Ev := { is := is_W rfl, c_cmp_isNaN_g15 := g_cmp_isNaN_g15 }
theorem g_impl_compareMarks : G_impl_compareMarks Ev := { is := is_W rfl, c_cmp_Or_g14 := g_cmp_Or_g14, c_cmp_Compare_g13 := g_cmp_Compare_g13 }
theorem g_impl_areReads : G_impl_areReads Ev := { is := is_W rfl, c_impl_in := g_impl_in, c_impl_isKey := g_impl_isKey, c_impl_compareMarks := g_impl_compareMarks }
theorem g_impl_areWrites : G_impl_areWrites Ev := { is := is_W rfl, c_impl_isKey := g_impl_isKey, c_impl_isValue := g_impl_isValue }
theorem g_impl_isScheme : G_impl_isScheme Ev := { is := is_W rfl, c_impl_in := g_impl_in }
theorem g_impl_IsValidTransaction : G_impl_IsValidTransaction Ev := { is := is_W rfl, c_impl_in := g_impl_in, c_impl_isID := g_impl_isID, c_impl_IsStamp := g_impl_IsStamp, c_impl_areReads := g_impl_areReads, c_impl_areWrites := g_impl_areWrites, c_impl_isScheme := g_impl_isScheme }
theorem g_slices_IndexFunc_g163 : G_slices_IndexFunc_g163 Ev := { is := is_W rfl }
theorem g_slices_ContainsFunc_g162 : G_slices_ContainsFunc_g162 Ev := { is := is_W rfl, c_slices_IndexFunc_g163 := g_slices_IndexFunc_g163 }
theorem g_slices_IndexFunc_g167 : G_slices_IndexFunc_g167 Ev := { is := is_W rfl }
theorem g_impl_FindVersion_1 : G_impl_FindVersion_1 Ev := { is := is_W rfl }
theorem g_impl_FindVersion : G_impl_FindVersion Ev := { is := is_W rfl, c_slices_IndexFunc_g167 := g_slices_IndexFunc_g167, c_impl_FindVersion_1 := g_impl_FindVersion_1 }
theorem g_impl_Store_find : G_impl_Store_find Ev := { is := is_W rfl, c_impl_FindVersion := g_impl_FindVersion }
theorem g_impl_Store_readsExist_1 : G_impl_Store_readsExist_1 Ev := { is := is_W rfl, c_impl_Store_find := g_impl_Store_find }
theorem g_impl_Store_readsExist : G_impl_Store_readsExist Ev := { is := is_W rfl, c_slices_ContainsFunc_g162 := g_slices_ContainsFunc_g162, c_impl_Store_readsExist_1 := g_impl_Store_readsExist_1 }
theorem g_impl_Engine_areTransactions : G_impl_Engine_areTransactions Ev := { is := is_W rfl, c_impl_IsValidTransaction := g_impl_IsValidTransaction, c_impl_Store_readsExist := g_impl_Store_readsExist }
theorem g_slices_IndexFunc_g168 : G_slices_IndexFunc_g168 Ev := { is := is_W rfl }
theorem g_slices_ContainsFunc_g155 : G_slices_ContainsFunc_g155 Ev := { is := is_W rfl, c_slices_IndexFunc_g168 := g_slices_IndexFunc_g168 }
theorem g_slices_IndexFunc_g172 : G_slices_IndexFunc_g172 Ev := { is := is_W rfl }
theorem g_impl_FindTransaction_1 : G_impl_FindTransaction_1 Ev := { is := is_W rfl }
theorem g_impl_FindTransaction : G_impl_FindTransaction Ev := { is := is_W rfl, c_slices_IndexFunc_g172 := g_slices_IndexFunc_g172, c_impl_FindTransaction_1 := g_impl_FindTransaction_1 }
theorem g_impl_Engine_isActive : G_impl_Engine_isActive Ev := { is := is_W rfl, c_impl_FindTransaction := g_impl_FindTransaction }
theorem g_impl_IsValidEngine_1 : G_impl_IsValidEngine_1 Ev := { is := is_W rfl, c_impl_Engine_isActive := g_impl_Engine_isActive }
theorem g_slices_IndexFunc_g173 : G_slices_IndexFunc_g173 Ev := { is := is_W rfl }
theorem g_slices_ContainsFunc_g157 : G_slices_ContainsFunc_g157 Ev := { is := is_W rfl, c_slices_IndexFunc_g173 := g_slices_IndexFunc_g173 }
theorem g_impl_IsValidEngine_2 : G_impl_IsValidEngine_2 Ev := { is := is_W rfl, c_impl_Engine_isActive := g_impl_Engine_isActive }
theorem g_impl_IsValidEngine : G_impl_IsValidEngine Ev := { is := is_W rfl, c_impl_IsValidStore := g_impl_IsValidStore, c_impl_AreLocks := g_impl_AreLocks, c_impl_AreWaits := g_impl_AreWaits, c_impl_in := g_impl_in, c_impl_Store_lastStamp := g_impl_Store_lastStamp, c_impl_Engine_areTransactions := g_impl_Engine_areTransactions, c_slices_ContainsFunc_g155 := g_slices_ContainsFunc_g155, c_impl_IsValidEngine_1 := g_impl_IsValidEngine_1, c_slices_ContainsFunc_g157 := g_slices_ContainsFunc_g157, c_impl_IsValidEngine_2 := g_impl_IsValidEngine_2 }
theorem g_impl_versionAt : G_impl_versionAt Ev := { is := is_W rfl }
theorem g_impl_ReadAt : G_impl_ReadAt Ev := { is := is_W rfl, c_impl_IsValidStore := g_impl_IsValidStore, c_impl_isKey := g_impl_isKey, c_impl_versionAt := g_impl_versionAt }
theorem g_impl_Store_refreshHigh : G_impl_Store_refreshHigh Ev := { is := is_W rfl, c_impl_Store_find := g_impl_Store_find }
theorem g_impl_Engine_unsafe : G_impl_Engine_unsafe Ev := { is := is_W rfl, c_impl_Store_refreshHigh := g_impl_Store_refreshHigh }
theorem g_impl_Engine_because : G_impl_Engine_because Ev := { is := is_W rfl, c_impl_Engine_unsafe := g_impl_Engine_unsafe }
theorem g_impl_Engine_safe : G_impl_Engine_safe Ev := { is := is_W rfl, c_impl_Engine_because := g_impl_Engine_because }
theorem g_impl_ReadSafe : G_impl_ReadSafe Ev := { is := is_W rfl, c_impl_IsValidEngine := g_impl_IsValidEngine, c_impl_ReadAt := g_impl_ReadAt, c_impl_Engine_safe := g_impl_Engine_safe }
theorem g_laws_eqVersion : G_laws_eqVersion Ev := { is := is_W rfl }
theorem g_laws_eqVersionS : G_laws_eqVersionS Ev := { is := is_W rfl, c_laws_eqVersion := g_laws_eqVersion }
theorem g_laws_eqVersionSS : G_laws_eqVersionSS Ev := { is := is_W rfl, c_laws_eqVersionS := g_laws_eqVersionS }
theorem g_laws_eqStore : G_laws_eqStore Ev := { is := is_W rfl, c_laws_eqVersionSS := g_laws_eqVersionSS }
theorem g_laws_eqReadMark : G_laws_eqReadMark Ev := { is := is_W rfl }
theorem g_laws_eqReadMarkS : G_laws_eqReadMarkS Ev := { is := is_W rfl, c_laws_eqReadMark := g_laws_eqReadMark }
theorem g_laws_eqWrite : G_laws_eqWrite Ev := { is := is_W rfl }
theorem g_laws_eqWriteS : G_laws_eqWriteS Ev := { is := is_W rfl, c_laws_eqWrite := g_laws_eqWrite }
theorem g_laws_eqTransaction : G_laws_eqTransaction Ev := { is := is_W rfl, c_laws_eqReadMarkS := g_laws_eqReadMarkS, c_laws_eqWriteS := g_laws_eqWriteS }
theorem g_laws_eqTransactionS : G_laws_eqTransactionS Ev := { is := is_W rfl, c_laws_eqTransaction := g_laws_eqTransaction }
theorem g_laws_eqLock : G_laws_eqLock Ev := { is := is_W rfl }
theorem g_laws_eqLockS : G_laws_eqLockS Ev := { is := is_W rfl, c_laws_eqLock := g_laws_eqLock }
theorem g_laws_eqWait : G_laws_eqWait Ev := { is := is_W rfl }
theorem g_laws_eqWaitS : G_laws_eqWaitS Ev := { is := is_W rfl, c_laws_eqWait := g_laws_eqWait }
theorem g_laws_eqEngine : G_laws_eqEngine Ev := { is := is_W rfl, c_laws_eqStore := g_laws_eqStore, c_laws_eqTransactionS := g_laws_eqTransactionS, c_laws_eqLockS := g_laws_eqLockS, c_laws_eqWaitS := g_laws_eqWaitS }
theorem g_laws_FnExactReadSafe : G_laws_FnExactReadSafe Ev := { is := is_W rfl, c_laws_szEngine := g_laws_szEngine, c_spec_ReadSafe := g_spec_ReadSafe, c_laws_toEngine := g_laws_toEngine, c_impl_ReadSafe := g_impl_ReadSafe, c_laws_eqEngine := g_laws_eqEngine }
end Go.Proofs.YtmdnjglkdddaeaaGreat.Am.FnExactReadSafe
