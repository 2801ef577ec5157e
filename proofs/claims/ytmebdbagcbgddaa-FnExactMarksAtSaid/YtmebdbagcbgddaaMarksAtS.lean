import Derived.Test.YtmebdbagcbgddaaChecked
import Derived.KernelRfl
import Derived.Test.YtmebdbagcbgddaaAmW
import Derived.Test.YtmebdbagcbgddaaMarksAtF0
namespace Go.Proofs.Ytmebdbagcbgddaa.Am.FnExactMarksAt
open Go Go.Proofs
set_option linter.unusedVariables false
set_option maxRecDepth 100000

/-- Which function of the program each number names. -/
def rho (m : Nat) : FuncId := match [(6, 61), (9, 65), (10, 62), (11, 66), (34, 56), (35, 98), (76, 113), (91, 14), (92, 60), (93, 54), (94, 55), (97, 57), (98, 53), (99, 52), (100, 93), (101, 114), (102, 95), (103, 94), (104, 115), (105, 124), (106, 116), (107, 96), (108, 117), (109, 125), (110, 97), (111, 119), (112, 118), (113, 127), (114, 126), (115, 130), (116, 128), (117, 131), (118, 99), (119, 120), (120, 129), (100093, 54), (100094, 55), (100107, 96), (100108, 117), (200095, 59), (200121, 100), (200122, 121)].lookup m with | some f => f | none => 0
theorem laws_szVersionS_match : matchFn Try.prog rho 101 2 laws_szVersionS_ac [(4, none)] = true := by kernel_rfl
theorem laws_szVersionSS_match : matchFn Try.prog rho 100 2 laws_szVersionSS_ac [(4, none)] = true := by kernel_rfl
theorem laws_szStore_match : matchFn Try.prog rho 99 2 laws_szStore_ac [(4, none)] = true := by kernel_rfl
theorem spec_l1In_match : matchFn Try.prog rho 6 3 spec_l1In_ac [(6, none)] = true := by kernel_rfl
theorem spec_IsValidVersion_match : matchFn Try.prog rho 105 1 spec_IsValidVersion_ac [(2, none)] = true := by kernel_rfl
theorem spec_IsValidChain_match : matchFn Try.prog rho 104 1 spec_IsValidChain_ac [(2, none)] = true := by kernel_rfl
theorem spec_IsValidStore_match : matchFn Try.prog rho 103 1 spec_IsValidStore_ac [(2, none)] = true := by kernel_rfl
theorem spec_VersionAt_match : matchFn Try.prog rho 106 2 spec_VersionAt_ac [(4, none)] = true := by kernel_rfl
theorem spec_ReadAt_match : matchFn Try.prog rho 102 3 spec_ReadAt_ac [(6, some (true, 5)), (7, none)] = true := by kernel_rfl
theorem spec_MarksAt_match : matchFn Try.prog rho 98 2 spec_MarksAt_ac [(4, none)] = true := by kernel_rfl
theorem laws_toVersion_match : matchFn Try.prog rho 109 1 laws_toVersion_ac [(2, some (true, 5))] = true := by kernel_rfl
theorem laws_toVersionS_match : matchFn Try.prog rho 108 1 laws_toVersionS_ac [(2, none)] = true := by kernel_rfl
theorem laws_toVersionSS_match : matchFn Try.prog rho 107 1 laws_toVersionSS_ac [(2, none)] = true := by kernel_rfl
theorem laws_toStore_match : matchFn Try.prog rho 93 1 laws_toStore_ac [(2, some (true, 1))] = true := by kernel_rfl
theorem impl_in_match : matchFn Try.prog rho 10 3 impl_in_ac [(6, none)] = true := by kernel_rfl
theorem impl_isKey_match : matchFn Try.prog rho 11 1 impl_isKey_ac [(2, none)] = true := by kernel_rfl
theorem slices_IndexFunc_g115_match : matchFn Try.prog rho 115 2 slices_IndexFunc_g115_ac [(4, none)] = true := by kernel_rfl
theorem slices_ContainsFunc_g114_match : matchFn Try.prog rho 114 2 slices_ContainsFunc_g114_ac [(4, none)] = true := by kernel_rfl
theorem impl_isID_match : matchFn Try.prog rho 9 1 impl_isID_ac [(2, none)] = true := by kernel_rfl
theorem impl_isValue_match : matchFn Try.prog rho 76 1 impl_isValue_ac [(2, none)] = true := by kernel_rfl
theorem impl_IsValidVersion_match : matchFn Try.prog rho 117 1 impl_IsValidVersion_ac [(2, none)] = true := by kernel_rfl
theorem impl_IsValidChain_match : matchFn Try.prog rho 116 1 impl_IsValidChain_ac [(2, none)] = true := by kernel_rfl
theorem impl_IsValidStore_1_match : matchFn Try.prog rho 113 1 impl_IsValidStore_1_ac [(2, none)] = true := by kernel_rfl
theorem impl_IsValidStore_match : matchFn Try.prog rho 112 1 impl_IsValidStore_ac [(2, none)] = true := by kernel_rfl
theorem impl_versionAt_match : matchFn Try.prog rho 111 2 impl_versionAt_ac [(4, none)] = true := by kernel_rfl
theorem impl_ReadAt_match : matchFn Try.prog rho 110 3 impl_ReadAt_ac [(6, some (true, 5)), (7, none)] = true := by kernel_rfl
theorem impl_MarksAt_match : matchFn Try.prog rho 94 2 impl_MarksAt_ac [(4, none)] = true := by kernel_rfl
theorem laws_eqReadMark_match : matchFn Try.prog rho 35 2 laws_eqReadMark_ac [(4, none)] = true := by kernel_rfl
theorem laws_eqReadMarkS_match : matchFn Try.prog rho 34 2 laws_eqReadMarkS_ac [(4, none)] = true := by kernel_rfl
theorem laws_eqVersion_match : matchFn Try.prog rho 120 2 laws_eqVersion_ac [(4, none)] = true := by kernel_rfl
theorem laws_eqVersionS_match : matchFn Try.prog rho 119 2 laws_eqVersionS_ac [(4, none)] = true := by kernel_rfl
theorem laws_eqVersionSS_match : matchFn Try.prog rho 118 2 laws_eqVersionSS_ac [(4, none)] = true := by kernel_rfl
theorem laws_eqStore_match : matchFn Try.prog rho 97 2 laws_eqStore_ac [(4, none)] = true := by kernel_rfl
theorem laws_heldReadMarkS_match : matchFn Try.prog rho 92 2 laws_heldReadMarkS_ac [(4, none)] = true := by kernel_rfl
theorem laws_toVersionS_F_match : matchFn Try.prog rho 100108 1 laws_toVersionS_F_ac [(2, none)] = true := by kernel_rfl
theorem laws_toVersionSS_F_match : matchFn Try.prog rho 100107 1 laws_toVersionSS_F_ac [(2, none)] = true := by kernel_rfl
theorem laws_toStore_F_match : matchFn Try.prog rho 100093 1 laws_toStore_F_ac [(2, some (true, 1))] = true := by kernel_rfl
theorem impl_MarksAt_F_match : matchFn Try.prog rho 100094 2 impl_MarksAt_F_ac [(4, none)] = true := by kernel_rfl
theorem laws_markReadMarkS_M_match : matchFn Try.prog rho 200095 2 laws_markReadMarkS_M_ac [(4, none)] = true := by kernel_rfl
theorem laws_markVersionS_M_match : matchFn Try.prog rho 200122 2 laws_markVersionS_M_ac [(4, none)] = true := by kernel_rfl
theorem laws_markVersionSS_M_match : matchFn Try.prog rho 200121 2 laws_markVersionSS_M_ac [(4, none)] = true := by kernel_rfl
theorem laws_FnExactMarksAt_match : matchFn Try.prog rho 91 2 laws_FnExactMarksAt_ac [(4, none)] = true := by kernel_rfl
def tbl : List (Nat × Fn) := [(101, ⟨2, laws_szVersionS_ac, [(4, none)]⟩),
  (100, ⟨2, laws_szVersionSS_ac, [(4, none)]⟩),
  (99, ⟨2, laws_szStore_ac, [(4, none)]⟩),
  (6, ⟨3, spec_l1In_ac, [(6, none)]⟩),
  (105, ⟨1, spec_IsValidVersion_ac, [(2, none)]⟩),
  (104, ⟨1, spec_IsValidChain_ac, [(2, none)]⟩),
  (103, ⟨1, spec_IsValidStore_ac, [(2, none)]⟩),
  (106, ⟨2, spec_VersionAt_ac, [(4, none)]⟩),
  (102, ⟨3, spec_ReadAt_ac, [(6, some (true, 5)), (7, none)]⟩),
  (98, ⟨2, spec_MarksAt_ac, [(4, none)]⟩),
  (109, ⟨1, laws_toVersion_ac, [(2, some (true, 5))]⟩),
  (108, ⟨1, laws_toVersionS_ac, [(2, none)]⟩),
  (107, ⟨1, laws_toVersionSS_ac, [(2, none)]⟩),
  (93, ⟨1, laws_toStore_ac, [(2, some (true, 1))]⟩),
  (10, ⟨3, impl_in_ac, [(6, none)]⟩),
  (11, ⟨1, impl_isKey_ac, [(2, none)]⟩),
  (115, ⟨2, slices_IndexFunc_g115_ac, [(4, none)]⟩),
  (114, ⟨2, slices_ContainsFunc_g114_ac, [(4, none)]⟩),
  (9, ⟨1, impl_isID_ac, [(2, none)]⟩),
  (76, ⟨1, impl_isValue_ac, [(2, none)]⟩),
  (117, ⟨1, impl_IsValidVersion_ac, [(2, none)]⟩),
  (116, ⟨1, impl_IsValidChain_ac, [(2, none)]⟩),
  (113, ⟨1, impl_IsValidStore_1_ac, [(2, none)]⟩),
  (112, ⟨1, impl_IsValidStore_ac, [(2, none)]⟩),
  (111, ⟨2, impl_versionAt_ac, [(4, none)]⟩),
  (110, ⟨3, impl_ReadAt_ac, [(6, some (true, 5)), (7, none)]⟩),
  (94, ⟨2, impl_MarksAt_ac, [(4, none)]⟩),
  (35, ⟨2, laws_eqReadMark_ac, [(4, none)]⟩),
  (34, ⟨2, laws_eqReadMarkS_ac, [(4, none)]⟩),
  (120, ⟨2, laws_eqVersion_ac, [(4, none)]⟩),
  (119, ⟨2, laws_eqVersionS_ac, [(4, none)]⟩),
  (118, ⟨2, laws_eqVersionSS_ac, [(4, none)]⟩),
  (97, ⟨2, laws_eqStore_ac, [(4, none)]⟩),
  (92, ⟨2, laws_heldReadMarkS_ac, [(4, none)]⟩),
  (100108, ⟨1, laws_toVersionS_F_ac, [(2, none)]⟩),
  (100107, ⟨1, laws_toVersionSS_F_ac, [(2, none)]⟩),
  (100093, ⟨1, laws_toStore_F_ac, [(2, some (true, 1))]⟩),
  (100094, ⟨2, impl_MarksAt_F_ac, [(4, none)]⟩),
  (200095, ⟨2, laws_markReadMarkS_M_ac, [(4, none)]⟩),
  (200122, ⟨2, laws_markVersionS_M_ac, [(4, none)]⟩),
  (200121, ⟨2, laws_markVersionSS_M_ac, [(4, none)]⟩),
  (91, ⟨2, laws_FnExactMarksAt_ac, [(4, none)]⟩)]
theorem tbl_all : AllMatch Try.prog rho tbl := ⟨laws_szVersionS_match, laws_szVersionSS_match, laws_szStore_match, spec_l1In_match, spec_IsValidVersion_match, spec_IsValidChain_match, spec_IsValidStore_match, spec_VersionAt_match, spec_ReadAt_match, spec_MarksAt_match, laws_toVersion_match, laws_toVersionS_match, laws_toVersionSS_match, laws_toStore_match, impl_in_match, impl_isKey_match, slices_IndexFunc_g115_match, slices_ContainsFunc_g114_match, impl_isID_match, impl_isValue_match, impl_IsValidVersion_match, impl_IsValidChain_match, impl_IsValidStore_1_match, impl_IsValidStore_match, impl_versionAt_match, impl_ReadAt_match, impl_MarksAt_match, laws_eqReadMark_match, laws_eqReadMarkS_match, laws_eqVersion_match, laws_eqVersionS_match, laws_eqVersionSS_match, laws_eqStore_match, laws_heldReadMarkS_match, laws_toVersionS_F_match, laws_toVersionSS_F_match, laws_toStore_F_match, impl_MarksAt_F_match, laws_markReadMarkS_M_match, laws_markVersionS_M_match, laws_markVersionSS_M_match, laws_FnExactMarksAt_match, trivial⟩
noncomputable abbrev Ev : Env := EnvW noEnv (look tbl)
theorem good : Good Try.prog rho Ev := good_W (tbl_ok tbl_all) (by kernel_rfl) good_no
theorem g_laws_szVersionS : G_laws_szVersionS Ev := { is := is_W rfl }
theorem g_laws_szVersionSS : G_laws_szVersionSS Ev := { is := is_W rfl, c_laws_szVersionS := g_laws_szVersionS }
theorem g_laws_szStore : G_laws_szStore Ev := { is := is_W rfl, c_laws_szVersionSS := g_laws_szVersionSS }
theorem g_spec_l1In : G_spec_l1In Ev := { is := is_W rfl }
theorem g_spec_IsValidVersion : G_spec_IsValidVersion Ev := { is := is_W rfl, c_spec_l1In := g_spec_l1In }
theorem g_spec_IsValidChain : G_spec_IsValidChain Ev := { is := is_W rfl, c_spec_IsValidVersion := g_spec_IsValidVersion }
theorem g_spec_IsValidStore : G_spec_IsValidStore Ev := { is := is_W rfl, c_spec_IsValidChain := g_spec_IsValidChain }
theorem g_spec_VersionAt : G_spec_VersionAt Ev := { is := is_W rfl, c_spec_IsValidChain := g_spec_IsValidChain }
theorem g_spec_ReadAt : G_spec_ReadAt Ev := { is := is_W rfl, c_spec_l1In := g_spec_l1In, c_spec_IsValidStore := g_spec_IsValidStore, c_spec_VersionAt := g_spec_VersionAt }
theorem g_spec_MarksAt : G_spec_MarksAt Ev := { is := is_W rfl, c_spec_IsValidStore := g_spec_IsValidStore, c_spec_ReadAt := g_spec_ReadAt }
theorem g_laws_toVersion : G_laws_toVersion Ev := { is := is_W rfl }
theorem g_laws_toVersionS : G_laws_toVersionS Ev := { is := is_W rfl, c_laws_toVersion := g_laws_toVersion }
theorem g_laws_toVersionSS : G_laws_toVersionSS Ev := { is := is_W rfl, c_laws_toVersionS := g_laws_toVersionS }
theorem g_laws_toStore : G_laws_toStore Ev := { is := is_W rfl, c_laws_toVersionSS := g_laws_toVersionSS }
theorem g_impl_in : G_impl_in Ev := { is := is_W rfl }
theorem g_impl_isKey : G_impl_isKey Ev := { is := is_W rfl, c_impl_in := g_impl_in }
theorem g_slices_IndexFunc_g115 : G_slices_IndexFunc_g115 Ev := { is := is_W rfl }
theorem g_slices_ContainsFunc_g114 : G_slices_ContainsFunc_g114 Ev := { is := is_W rfl, c_slices_IndexFunc_g115 := g_slices_IndexFunc_g115 }
theorem g_impl_isID : G_impl_isID Ev := { is := is_W rfl, c_impl_in := g_impl_in }
theorem g_impl_isValue : G_impl_isValue Ev := { is := is_W rfl, c_impl_in := g_impl_in }
theorem g_impl_IsValidVersion : G_impl_IsValidVersion Ev := { is := is_W rfl, c_impl_in := g_impl_in, c_impl_isID := g_impl_isID, c_impl_isValue := g_impl_isValue }
theorem g_impl_IsValidChain : G_impl_IsValidChain Ev := { is := is_W rfl, c_impl_IsValidVersion := g_impl_IsValidVersion }
theorem g_impl_IsValidStore_1 : G_impl_IsValidStore_1 Ev := { is := is_W rfl, c_impl_IsValidChain := g_impl_IsValidChain }
theorem g_impl_IsValidStore : G_impl_IsValidStore Ev := { is := is_W rfl, c_slices_ContainsFunc_g114 := g_slices_ContainsFunc_g114, c_impl_IsValidStore_1 := g_impl_IsValidStore_1 }
theorem g_impl_versionAt : G_impl_versionAt Ev := { is := is_W rfl }
theorem g_impl_ReadAt : G_impl_ReadAt Ev := { is := is_W rfl, c_impl_isKey := g_impl_isKey, c_impl_IsValidStore := g_impl_IsValidStore, c_impl_versionAt := g_impl_versionAt }
theorem g_impl_MarksAt : G_impl_MarksAt Ev := { is := is_W rfl, c_impl_ReadAt := g_impl_ReadAt }
theorem g_laws_eqReadMark : G_laws_eqReadMark Ev := { is := is_W rfl }
theorem g_laws_eqReadMarkS : G_laws_eqReadMarkS Ev := { is := is_W rfl, c_laws_eqReadMark := g_laws_eqReadMark }
theorem g_laws_eqVersion : G_laws_eqVersion Ev := { is := is_W rfl }
theorem g_laws_eqVersionS : G_laws_eqVersionS Ev := { is := is_W rfl, c_laws_eqVersion := g_laws_eqVersion }
theorem g_laws_eqVersionSS : G_laws_eqVersionSS Ev := { is := is_W rfl, c_laws_eqVersionS := g_laws_eqVersionS }
theorem g_laws_eqStore : G_laws_eqStore Ev := { is := is_W rfl, c_laws_eqVersionSS := g_laws_eqVersionSS }
theorem g_laws_heldReadMarkS : G_laws_heldReadMarkS Ev := { is := is_W rfl }
theorem g_laws_toVersionS_F : G_laws_toVersionS_F Ev := { is := is_W rfl, c_laws_toVersion := g_laws_toVersion }
theorem g_laws_toVersionSS_F : G_laws_toVersionSS_F Ev := { is := is_W rfl, c_laws_toVersionS_F := g_laws_toVersionS_F }
theorem g_laws_toStore_F : G_laws_toStore_F Ev := { is := is_W rfl, c_laws_toVersionSS_F := g_laws_toVersionSS_F }
theorem g_impl_MarksAt_F : G_impl_MarksAt_F Ev := { is := is_W rfl, c_impl_ReadAt := g_impl_ReadAt }
theorem g_laws_markReadMarkS_M : G_laws_markReadMarkS_M Ev := { is := is_W rfl }
theorem g_laws_markVersionS_M : G_laws_markVersionS_M Ev := { is := is_W rfl }
theorem g_laws_markVersionSS_M : G_laws_markVersionSS_M Ev := { is := is_W rfl, c_laws_markVersionS_M := g_laws_markVersionS_M }
theorem g_laws_FnExactMarksAt : G_laws_FnExactMarksAt Ev := { is := is_W rfl, c_laws_szStore := g_laws_szStore, c_spec_MarksAt := g_spec_MarksAt, c_laws_toStore := g_laws_toStore, c_impl_MarksAt := g_impl_MarksAt, c_laws_eqReadMarkS := g_laws_eqReadMarkS, c_laws_eqStore := g_laws_eqStore, c_laws_heldReadMarkS := g_laws_heldReadMarkS, c_laws_toStore_F := g_laws_toStore_F, c_impl_MarksAt_F := g_impl_MarksAt_F, c_laws_markReadMarkS_M := g_laws_markReadMarkS_M, c_laws_markVersionSS_M := g_laws_markVersionSS_M }
end Go.Proofs.Ytmebdbagcbgddaa.Am.FnExactMarksAt
