import Derived.Test.YtfdcdbkblkehcaaChecked
import Derived.KernelRfl
import Derived.Test.YtfdcdbkblkehcaaAmW
import Derived.Test.YtfdcdbkblkehcaaAbortTransactionF0
import Derived.Test.YtfdcdbkblkehcaaAbortTransactionF1
import Derived.Test.YtfdcdbkblkehcaaAmCl
namespace Go.Proofs.Ytfdcdbkblkehcaa.Am.FnExactAbortTransaction
open Go Go.Proofs
set_option linter.unusedVariables false
set_option maxRecDepth 100000

/-- Which function of the program each number names. -/
def rho (m : Nat) : FuncId := match [(6, 83), (9, 138), (10, 136), (11, 86), (13, 175), (14, 174), (15, 193), (23, 58), (24, 57), (27, 62), (28, 61), (29, 102), (30, 103), (33, 66), (34, 65), (35, 107), (36, 108), (70, 60), (71, 101), (72, 160), (73, 161), (74, 162), (75, 140), (76, 137), (92, 69), (132, 13), (145, 15), (159, 106), (160, 159), (177, 17), (205, 19), (212, 59), (222, 63), (224, 104), (225, 105), (235, 70), (301, 64), (327, 3), (328, 16), (329, 14), (100027, 62), (100028, 61), (100145, 15), (100222, 63), (100224, 104), (100225, 105), (100328, 16), (200095, 67), (200232, 68)].lookup m with | some f => f | none => 0
theorem laws_szReadMarkS_match : matchFn Try.prog rho 24 2 laws_szReadMarkS_ac [(4, none)] = true := by kernel_rfl
theorem laws_szWriteS_match : matchFn Try.prog rho 23 2 laws_szWriteS_ac [(4, none)] = true := by kernel_rfl
theorem laws_szTransaction_match : matchFn Try.prog rho 132 2 laws_szTransaction_ac [(4, none)] = true := by kernel_rfl
theorem spec_l5Copy_match : matchFn Try.prog rho 212 1 spec_l5Copy_ac [(2, some (true, 9))] = true := by kernel_rfl
theorem spec_l1In_match : matchFn Try.prog rho 6 3 spec_l1In_ac [(6, none)] = true := by kernel_rfl
theorem spec_l5Before_match : matchFn Try.prog rho 71 2 spec_l5Before_ac [(4, none)] = true := by kernel_rfl
theorem spec_IsValidTransaction_match : matchFn Try.prog rho 70 1 spec_IsValidTransaction_ac [(2, none)] = true := by kernel_rfl
theorem spec_AbortTransaction_match : matchFn Try.prog rho 329 1 spec_AbortTransaction_ac [(2, some (true, 9)), (3, none)] = true := by kernel_rfl
theorem laws_toReadMark_match : matchFn Try.prog rho 29 1 laws_toReadMark_ac [(2, some (true, 2))] = true := by kernel_rfl
theorem laws_toReadMarkS_match : matchFn Try.prog rho 28 1 laws_toReadMarkS_ac [(2, none)] = true := by kernel_rfl
theorem laws_toWrite_match : matchFn Try.prog rho 30 1 laws_toWrite_ac [(2, some (true, 2))] = true := by kernel_rfl
theorem laws_toWriteS_match : matchFn Try.prog rho 27 1 laws_toWriteS_ac [(2, none)] = true := by kernel_rfl
theorem laws_toTransaction_match : matchFn Try.prog rho 145 1 laws_toTransaction_ac [(2, some (true, 9))] = true := by kernel_rfl
theorem impl_Transaction_copied_match : matchFn Try.prog rho 222 1 impl_Transaction_copied_ac [(2, some (true, 9))] = true := by kernel_rfl
theorem impl_in_match : matchFn Try.prog rho 10 3 impl_in_ac [(6, none)] = true := by kernel_rfl
theorem impl_isID_match : matchFn Try.prog rho 9 1 impl_isID_ac [(2, none)] = true := by kernel_rfl
theorem impl_isScheme_match : matchFn Try.prog rho 160 1 impl_isScheme_ac [(2, none)] = true := by kernel_rfl
theorem impl_IsStamp_match : matchFn Try.prog rho 72 1 impl_IsStamp_ac [(2, none)] = true := by kernel_rfl
theorem impl_isKey_match : matchFn Try.prog rho 11 1 impl_isKey_ac [(2, none)] = true := by kernel_rfl
theorem cmp_Or_g14_match : matchFn Try.prog rho 14 1 cmp_Or_g14_ac [(2, none)] = true := by kernel_rfl
theorem cmp_isNaN_g15_match : matchFn Try.prog rho 15 1 cmp_isNaN_g15_ac [(2, none)] = true := by kernel_rfl
theorem cmp_Compare_g13_match : matchFn Try.prog rho 13 2 cmp_Compare_g13_ac [(4, none)] = true := by kernel_rfl
theorem impl_compareMarks_match : matchFn Try.prog rho 75 2 impl_compareMarks_ac [(4, none)] = true := by kernel_rfl
theorem impl_areReads_match : matchFn Try.prog rho 73 1 impl_areReads_ac [(2, none)] = true := by kernel_rfl
theorem impl_isValue_match : matchFn Try.prog rho 76 1 impl_isValue_ac [(2, none)] = true := by kernel_rfl
theorem impl_areWrites_match : matchFn Try.prog rho 74 1 impl_areWrites_ac [(2, none)] = true := by kernel_rfl
theorem impl_IsValidTransaction_match : matchFn Try.prog rho 159 1 impl_IsValidTransaction_ac [(2, none)] = true := by kernel_rfl
theorem impl_Transaction_isActive_match : matchFn Try.prog rho 301 1 impl_Transaction_isActive_ac [(2, none)] = true := by kernel_rfl
theorem impl_AbortTransaction_match : matchFn Try.prog rho 328 1 impl_AbortTransaction_ac [(2, some (true, 9)), (3, none)] = true := by kernel_rfl
theorem laws_eqReadMark_match : matchFn Try.prog rho 35 2 laws_eqReadMark_ac [(4, none)] = true := by kernel_rfl
theorem laws_eqReadMarkS_match : matchFn Try.prog rho 34 2 laws_eqReadMarkS_ac [(4, none)] = true := by kernel_rfl
theorem laws_eqWrite_match : matchFn Try.prog rho 36 2 laws_eqWrite_ac [(4, none)] = true := by kernel_rfl
theorem laws_eqWriteS_match : matchFn Try.prog rho 33 2 laws_eqWriteS_ac [(4, none)] = true := by kernel_rfl
theorem laws_eqTransaction_match : matchFn Try.prog rho 177 2 laws_eqTransaction_ac [(4, none)] = true := by kernel_rfl
theorem laws_heldReadMarkS_match : matchFn Try.prog rho 92 2 laws_heldReadMarkS_ac [(4, none)] = true := by kernel_rfl
theorem laws_heldWriteS_match : matchFn Try.prog rho 235 2 laws_heldWriteS_ac [(4, none)] = true := by kernel_rfl
theorem laws_heldTransaction_match : matchFn Try.prog rho 205 2 laws_heldTransaction_ac [(4, none)] = true := by kernel_rfl
theorem laws_toReadMarkS_F_match : matchFn Try.prog rho 100028 1 laws_toReadMarkS_F_ac [(2, none)] = true := by kernel_rfl
theorem laws_toWriteS_F_match : matchFn Try.prog rho 100027 1 laws_toWriteS_F_ac [(2, none)] = true := by kernel_rfl
theorem laws_toTransaction_F_match : matchFn Try.prog rho 100145 1 laws_toTransaction_F_ac [(2, some (true, 9))] = true := by kernel_rfl
theorem impl_Transaction_copied_F_match : matchFn Try.prog rho 100222 1 impl_Transaction_copied_F_ac [(2, some (true, 9))] = true := by kernel_rfl
theorem impl_AbortTransaction_F_match : matchFn Try.prog rho 100328 1 impl_AbortTransaction_F_ac [(2, some (true, 9)), (3, none)] = true := by kernel_rfl
theorem laws_markReadMarkS_M_match : matchFn Try.prog rho 200095 2 laws_markReadMarkS_M_ac [(4, none)] = true := by kernel_rfl
theorem laws_markWriteS_M_match : matchFn Try.prog rho 200232 2 laws_markWriteS_M_ac [(4, none)] = true := by kernel_rfl
theorem laws_FnExactAbortTransaction_match : matchFn Try.prog rho 327 1 laws_FnExactAbortTransaction_ac [(2, none)] = true := by kernel_rfl
def tbl : List (Nat × Fn) := [(24, ⟨2, laws_szReadMarkS_ac, [(4, none)]⟩),
  (23, ⟨2, laws_szWriteS_ac, [(4, none)]⟩),
  (132, ⟨2, laws_szTransaction_ac, [(4, none)]⟩),
  (212, ⟨1, spec_l5Copy_ac, [(2, some (true, 9))]⟩),
  (6, ⟨3, spec_l1In_ac, [(6, none)]⟩),
  (71, ⟨2, spec_l5Before_ac, [(4, none)]⟩),
  (70, ⟨1, spec_IsValidTransaction_ac, [(2, none)]⟩),
  (329, ⟨1, spec_AbortTransaction_ac, [(2, some (true, 9)), (3, none)]⟩),
  (29, ⟨1, laws_toReadMark_ac, [(2, some (true, 2))]⟩),
  (28, ⟨1, laws_toReadMarkS_ac, [(2, none)]⟩),
  (30, ⟨1, laws_toWrite_ac, [(2, some (true, 2))]⟩),
  (27, ⟨1, laws_toWriteS_ac, [(2, none)]⟩),
  (145, ⟨1, laws_toTransaction_ac, [(2, some (true, 9))]⟩),
  (222, ⟨1, impl_Transaction_copied_ac, [(2, some (true, 9))]⟩),
  (10, ⟨3, impl_in_ac, [(6, none)]⟩),
  (9, ⟨1, impl_isID_ac, [(2, none)]⟩),
  (160, ⟨1, impl_isScheme_ac, [(2, none)]⟩),
  (72, ⟨1, impl_IsStamp_ac, [(2, none)]⟩),
  (11, ⟨1, impl_isKey_ac, [(2, none)]⟩),
  (14, ⟨1, cmp_Or_g14_ac, [(2, none)]⟩),
  (15, ⟨1, cmp_isNaN_g15_ac, [(2, none)]⟩),
  (13, ⟨2, cmp_Compare_g13_ac, [(4, none)]⟩),
  (75, ⟨2, impl_compareMarks_ac, [(4, none)]⟩),
  (73, ⟨1, impl_areReads_ac, [(2, none)]⟩),
  (76, ⟨1, impl_isValue_ac, [(2, none)]⟩),
  (74, ⟨1, impl_areWrites_ac, [(2, none)]⟩),
  (159, ⟨1, impl_IsValidTransaction_ac, [(2, none)]⟩),
  (301, ⟨1, impl_Transaction_isActive_ac, [(2, none)]⟩),
  (328, ⟨1, impl_AbortTransaction_ac, [(2, some (true, 9)), (3, none)]⟩),
  (35, ⟨2, laws_eqReadMark_ac, [(4, none)]⟩),
  (34, ⟨2, laws_eqReadMarkS_ac, [(4, none)]⟩),
  (36, ⟨2, laws_eqWrite_ac, [(4, none)]⟩),
  (33, ⟨2, laws_eqWriteS_ac, [(4, none)]⟩),
  (177, ⟨2, laws_eqTransaction_ac, [(4, none)]⟩),
  (92, ⟨2, laws_heldReadMarkS_ac, [(4, none)]⟩),
  (235, ⟨2, laws_heldWriteS_ac, [(4, none)]⟩),
  (205, ⟨2, laws_heldTransaction_ac, [(4, none)]⟩),
  (100028, ⟨1, laws_toReadMarkS_F_ac, [(2, none)]⟩),
  (100027, ⟨1, laws_toWriteS_F_ac, [(2, none)]⟩),
  (100145, ⟨1, laws_toTransaction_F_ac, [(2, some (true, 9))]⟩),
  (100222, ⟨1, impl_Transaction_copied_F_ac, [(2, some (true, 9))]⟩),
  (100328, ⟨1, impl_AbortTransaction_F_ac, [(2, some (true, 9)), (3, none)]⟩),
  (200095, ⟨2, laws_markReadMarkS_M_ac, [(4, none)]⟩),
  (200232, ⟨2, laws_markWriteS_M_ac, [(4, none)]⟩),
  (327, ⟨1, laws_FnExactAbortTransaction_ac, [(2, none)]⟩)]
theorem tbl_all : AllMatch Try.prog rho tbl := ⟨laws_szReadMarkS_match, laws_szWriteS_match, laws_szTransaction_match, spec_l5Copy_match, spec_l1In_match, spec_l5Before_match, spec_IsValidTransaction_match, spec_AbortTransaction_match, laws_toReadMark_match, laws_toReadMarkS_match, laws_toWrite_match, laws_toWriteS_match, laws_toTransaction_match, impl_Transaction_copied_match, impl_in_match, impl_isID_match, impl_isScheme_match, impl_IsStamp_match, impl_isKey_match, cmp_Or_g14_match, cmp_isNaN_g15_match, cmp_Compare_g13_match, impl_compareMarks_match, impl_areReads_match, impl_isValue_match, impl_areWrites_match, impl_IsValidTransaction_match, impl_Transaction_isActive_match, impl_AbortTransaction_match, laws_eqReadMark_match, laws_eqReadMarkS_match, laws_eqWrite_match, laws_eqWriteS_match, laws_eqTransaction_match, laws_heldReadMarkS_match, laws_heldWriteS_match, laws_heldTransaction_match, laws_toReadMarkS_F_match, laws_toWriteS_F_match, laws_toTransaction_F_match, impl_Transaction_copied_F_match, impl_AbortTransaction_F_match, laws_markReadMarkS_M_match, laws_markWriteS_M_match, laws_FnExactAbortTransaction_match, trivial⟩
theorem slices_Clone_g224_mV : matchFn Try.prog rho 224 1 slices_Clone_g224_ac [(2, none)] = true := by kernel_rfl
theorem slices_Clone_g224_mF : matchFn Try.prog rho (100000 + 224) 1 slices_Clone_g224_ac [(2, none)] = true := by kernel_rfl
theorem slices_Clone_g225_mV : matchFn Try.prog rho 225 1 slices_Clone_g225_ac [(2, none)] = true := by kernel_rfl
theorem slices_Clone_g225_mF : matchFn Try.prog rho (100000 + 225) 1 slices_Clone_g225_ac [(2, none)] = true := by kernel_rfl
def ctbl : List (Nat × Nat × Nat × AC) := [(224, 2, 16, slices_Clone_g224_ac), (225, 2, 16, slices_Clone_g225_ac)]
theorem ctbl_all : CloneAll Try.prog rho ctbl := ⟨by decide, slices_Clone_g224_mV, slices_Clone_g224_mF, slices_Clone_g224_ok, by decide, slices_Clone_g225_mV, slices_Clone_g225_mF, slices_Clone_g225_ok, trivial⟩
noncomputable abbrev Ev : Env := EnvW (cloneE ctbl) (look tbl)
theorem good : Good Try.prog rho Ev := good_W (tbl_ok tbl_all) (by kernel_rfl) (good_clone (by kernel_rfl) ctbl_all)
theorem g_slices_Clone_g224 : IsClone Ev 224 2 16 := isClone_W (by decide) rfl rfl rfl
theorem g_slices_Clone_g225 : IsClone Ev 225 2 16 := isClone_W (by decide) rfl rfl rfl
theorem g_laws_szReadMarkS : G_laws_szReadMarkS Ev := { is := is_W rfl }
theorem g_laws_szWriteS : G_laws_szWriteS Ev := { is := is_W rfl }
theorem g_laws_szTransaction : G_laws_szTransaction Ev := { is := is_W rfl, c_laws_szReadMarkS := g_laws_szReadMarkS, c_laws_szWriteS := g_laws_szWriteS }
theorem g_spec_l5Copy : G_spec_l5Copy Ev := { is := is_W rfl }
theorem g_spec_l1In : G_spec_l1In Ev := { is := is_W rfl }
theorem g_spec_l5Before : G_spec_l5Before Ev := { is := is_W rfl }
theorem g_spec_IsValidTransaction : G_spec_IsValidTransaction Ev := { is := is_W rfl, c_spec_l1In := g_spec_l1In, c_spec_l5Before := g_spec_l5Before }
theorem g_spec_AbortTransaction : G_spec_AbortTransaction Ev := { is := is_W rfl, c_spec_l5Copy := g_spec_l5Copy, c_spec_IsValidTransaction := g_spec_IsValidTransaction }
theorem g_laws_toReadMark : G_laws_toReadMark Ev := { is := is_W rfl }
theorem g_laws_toReadMarkS : G_laws_toReadMarkS Ev := { is := is_W rfl, c_laws_toReadMark := g_laws_toReadMark }
theorem g_laws_toWrite : G_laws_toWrite Ev := { is := is_W rfl }
theorem g_laws_toWriteS : G_laws_toWriteS Ev := { is := is_W rfl, c_laws_toWrite := g_laws_toWrite }
theorem g_laws_toTransaction : G_laws_toTransaction Ev := { is := is_W rfl, c_laws_toReadMarkS := g_laws_toReadMarkS, c_laws_toWriteS := g_laws_toWriteS }
theorem g_impl_Transaction_copied : G_impl_Transaction_copied Ev := { is := is_W rfl, c_slices_Clone_g224 := g_slices_Clone_g224, c_slices_Clone_g225 := g_slices_Clone_g225 }
theorem g_impl_in : G_impl_in Ev := { is := is_W rfl }
theorem g_impl_isID : G_impl_isID Ev := { is := is_W rfl, c_impl_in := g_impl_in }
theorem g_impl_isScheme : G_impl_isScheme Ev := { is := is_W rfl, c_impl_in := g_impl_in }
theorem g_impl_IsStamp : G_impl_IsStamp Ev := { is := is_W rfl, c_impl_in := g_impl_in }
theorem g_impl_isKey : G_impl_isKey Ev := { is := is_W rfl, c_impl_in := g_impl_in }
theorem g_cmp_Or_g14 : G_cmp_Or_g14 Ev := { is := is_W rfl }
theorem g_cmp_isNaN_g15 : G_cmp_isNaN_g15 Ev := { is := is_W rfl }
theorem g_cmp_Compare_g13 : G_cmp_Compare_g13 Ev := { is := is_W rfl, c_cmp_isNaN_g15 := g_cmp_isNaN_g15 }
theorem g_impl_compareMarks : G_impl_compareMarks Ev := { is := is_W rfl, c_cmp_Or_g14 := g_cmp_Or_g14, c_cmp_Compare_g13 := g_cmp_Compare_g13 }
theorem g_impl_areReads : G_impl_areReads Ev := { is := is_W rfl, c_impl_isKey := g_impl_isKey, c_impl_in := g_impl_in, c_impl_compareMarks := g_impl_compareMarks }
theorem g_impl_isValue : G_impl_isValue Ev := { is := is_W rfl, c_impl_in := g_impl_in }
theorem g_impl_areWrites : G_impl_areWrites Ev := { is := is_W rfl, c_impl_isKey := g_impl_isKey, c_impl_isValue := g_impl_isValue }
theorem g_impl_IsValidTransaction : G_impl_IsValidTransaction Ev := { is := is_W rfl, c_impl_in := g_impl_in, c_impl_isID := g_impl_isID, c_impl_isScheme := g_impl_isScheme, c_impl_IsStamp := g_impl_IsStamp, c_impl_areReads := g_impl_areReads, c_impl_areWrites := g_impl_areWrites }
theorem g_impl_Transaction_isActive : G_impl_Transaction_isActive Ev := { is := is_W rfl, c_impl_IsValidTransaction := g_impl_IsValidTransaction }
theorem g_impl_AbortTransaction : G_impl_AbortTransaction Ev := { is := is_W rfl, c_impl_Transaction_copied := g_impl_Transaction_copied, c_impl_Transaction_isActive := g_impl_Transaction_isActive }
theorem g_laws_eqReadMark : G_laws_eqReadMark Ev := { is := is_W rfl }
theorem g_laws_eqReadMarkS : G_laws_eqReadMarkS Ev := { is := is_W rfl, c_laws_eqReadMark := g_laws_eqReadMark }
theorem g_laws_eqWrite : G_laws_eqWrite Ev := { is := is_W rfl }
theorem g_laws_eqWriteS : G_laws_eqWriteS Ev := { is := is_W rfl, c_laws_eqWrite := g_laws_eqWrite }
theorem g_laws_eqTransaction : G_laws_eqTransaction Ev := { is := is_W rfl, c_laws_eqReadMarkS := g_laws_eqReadMarkS, c_laws_eqWriteS := g_laws_eqWriteS }
theorem g_laws_heldReadMarkS : G_laws_heldReadMarkS Ev := { is := is_W rfl }
theorem g_laws_heldWriteS : G_laws_heldWriteS Ev := { is := is_W rfl }
theorem g_laws_heldTransaction : G_laws_heldTransaction Ev := { is := is_W rfl, c_laws_heldReadMarkS := g_laws_heldReadMarkS, c_laws_heldWriteS := g_laws_heldWriteS }
theorem g_laws_toReadMarkS_F : G_laws_toReadMarkS_F Ev := { is := is_W rfl, c_laws_toReadMark := g_laws_toReadMark }
theorem g_laws_toWriteS_F : G_laws_toWriteS_F Ev := { is := is_W rfl, c_laws_toWrite := g_laws_toWrite }
theorem g_laws_toTransaction_F : G_laws_toTransaction_F Ev := { is := is_W rfl, c_laws_toReadMarkS_F := g_laws_toReadMarkS_F, c_laws_toWriteS_F := g_laws_toWriteS_F }
theorem g_impl_Transaction_copied_F : G_impl_Transaction_copied_F Ev := { is := is_W rfl, c_slices_Clone_g224 := g_slices_Clone_g224, c_slices_Clone_g225 := g_slices_Clone_g225 }
theorem g_impl_AbortTransaction_F : G_impl_AbortTransaction_F Ev := { is := is_W rfl, c_impl_Transaction_isActive := g_impl_Transaction_isActive, c_impl_Transaction_copied_F := g_impl_Transaction_copied_F }
theorem g_laws_markReadMarkS_M : G_laws_markReadMarkS_M Ev := { is := is_W rfl }
theorem g_laws_markWriteS_M : G_laws_markWriteS_M Ev := { is := is_W rfl }
theorem g_laws_FnExactAbortTransaction : G_laws_FnExactAbortTransaction Ev := { is := is_W rfl, c_laws_szTransaction := g_laws_szTransaction, c_spec_AbortTransaction := g_spec_AbortTransaction, c_laws_toTransaction := g_laws_toTransaction, c_impl_AbortTransaction := g_impl_AbortTransaction, c_laws_eqTransaction := g_laws_eqTransaction, c_laws_heldTransaction := g_laws_heldTransaction, c_laws_toTransaction_F := g_laws_toTransaction_F, c_impl_AbortTransaction_F := g_impl_AbortTransaction_F, c_laws_markReadMarkS_M := g_laws_markReadMarkS_M, c_laws_markWriteS_M := g_laws_markWriteS_M }
end Go.Proofs.Ytfdcdbkblkehcaa.Am.FnExactAbortTransaction
