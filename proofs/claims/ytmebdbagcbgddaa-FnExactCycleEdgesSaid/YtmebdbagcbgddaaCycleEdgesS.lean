import Derived.Test.YtmebdbagcbgddaaChecked
import Derived.KernelRfl
import Derived.Test.YtmebdbagcbgddaaAmW
import Derived.Test.YtmebdbagcbgddaaCycleEdgesF0
namespace Go.Proofs.Ytmebdbagcbgddaa.Am.FnExactCycleEdges
open Go Go.Proofs
set_option linter.unusedVariables false
set_option maxRecDepth 100000

/-- Which function of the program each number names. -/
def rho (m : Nat) : FuncId := match [(1, 21), (2, 23), (3, 22), (4, 20), (5, 19), (6, 61), (7, 63), (8, 64), (9, 65), (10, 62), (11, 66), (12, 67), (13, 102), (14, 101), (15, 122), (16, 68), (42, 85), (43, 108), (58, 37), (59, 39), (60, 38), (61, 36), (62, 84), (63, 86), (64, 110), (65, 109), (66, 91), (82, 12), (83, 48), (84, 45), (87, 44), (88, 92), (100001, 21), (100058, 37), (100084, 45), (200085, 46), (200086, 47)].lookup m with | some f => f | none => 0
theorem laws_szEdgeS_match : matchFn Try.prog rho 5 2 laws_szEdgeS_ac [(4, none)] = true := by kernel_rfl
theorem laws_toEdge_match : matchFn Try.prog rho 8 1 laws_toEdge_ac [(2, some (true, 4))] = true := by kernel_rfl
theorem laws_toEdgeS_match : matchFn Try.prog rho 1 1 laws_toEdgeS_ac [(2, none)] = true := by kernel_rfl
theorem laws_eqEdge_match : matchFn Try.prog rho 16 2 laws_eqEdge_ac [(4, none)] = true := by kernel_rfl
theorem laws_eqEdgeS_match : matchFn Try.prog rho 2 2 laws_eqEdgeS_ac [(4, none)] = true := by kernel_rfl
theorem laws_toIntS_match : matchFn Try.prog rho 58 1 laws_toIntS_ac [(2, none)] = true := by kernel_rfl
theorem laws_eqIntS_match : matchFn Try.prog rho 59 2 laws_eqIntS_ac [(4, none)] = true := by kernel_rfl
theorem spec_l1In_match : matchFn Try.prog rho 6 3 spec_l1In_ac [(6, none)] = true := by kernel_rfl
theorem spec_l19Less_match : matchFn Try.prog rho 7 2 spec_l19Less_ac [(4, none)] = true := by kernel_rfl
theorem spec_AreEdges_match : matchFn Try.prog rho 4 1 spec_AreEdges_ac [(2, none)] = true := by kernel_rfl
theorem spec_HasEdge_match : matchFn Try.prog rho 62 3 spec_HasEdge_ac [(6, none)] = true := by kernel_rfl
theorem spec_CheckCycle_match : matchFn Try.prog rho 61 2 spec_CheckCycle_ac [(4, none)] = true := by kernel_rfl
theorem spec_CycleEdges_match : matchFn Try.prog rho 87 2 spec_CycleEdges_ac [(4, none)] = true := by kernel_rfl
theorem impl_in_match : matchFn Try.prog rho 10 3 impl_in_ac [(6, none)] = true := by kernel_rfl
theorem impl_isID_match : matchFn Try.prog rho 9 1 impl_isID_ac [(2, none)] = true := by kernel_rfl
theorem impl_isKey_match : matchFn Try.prog rho 11 1 impl_isKey_ac [(2, none)] = true := by kernel_rfl
theorem cmp_Or_g14_match : matchFn Try.prog rho 14 1 cmp_Or_g14_ac [(2, none)] = true := by kernel_rfl
theorem cmp_isNaN_g15_match : matchFn Try.prog rho 15 1 cmp_isNaN_g15_ac [(2, none)] = true := by kernel_rfl
theorem cmp_Compare_g13_match : matchFn Try.prog rho 13 2 cmp_Compare_g13_ac [(4, none)] = true := by kernel_rfl
theorem impl_compareEdges_match : matchFn Try.prog rho 12 2 impl_compareEdges_ac [(4, none)] = true := by kernel_rfl
theorem impl_AreEdges_match : matchFn Try.prog rho 3 1 impl_AreEdges_ac [(2, none)] = true := by kernel_rfl
theorem slices_Index_g43_match : matchFn Try.prog rho 43 2 slices_Index_g43_ac [(4, none)] = true := by kernel_rfl
theorem slices_Contains_g42_match : matchFn Try.prog rho 42 2 slices_Contains_g42_ac [(4, none)] = true := by kernel_rfl
theorem slices_IndexFunc_g66_match : matchFn Try.prog rho 66 2 slices_IndexFunc_g66_ac [(4, none)] = true := by kernel_rfl
theorem slices_ContainsFunc_g65_match : matchFn Try.prog rho 65 2 slices_ContainsFunc_g65_ac [(4, none)] = true := by kernel_rfl
theorem impl_HasEdge_1_match : matchFn Try.prog rho 64 3 impl_HasEdge_1_ac [(4, none)] = true := by kernel_rfl
theorem impl_HasEdge_match : matchFn Try.prog rho 63 3 impl_HasEdge_ac [(6, none)] = true := by kernel_rfl
theorem impl_CheckCycle_match : matchFn Try.prog rho 60 2 impl_CheckCycle_ac [(4, none)] = true := by kernel_rfl
theorem impl_CycleEdges_1_match : matchFn Try.prog rho 88 3 impl_CycleEdges_1_ac [(4, none)] = true := by kernel_rfl
theorem impl_CycleEdges_match : matchFn Try.prog rho 84 2 impl_CycleEdges_ac [(4, none)] = true := by kernel_rfl
theorem laws_heldEdgeS_match : matchFn Try.prog rho 83 2 laws_heldEdgeS_ac [(4, none)] = true := by kernel_rfl
theorem laws_toEdgeS_F_match : matchFn Try.prog rho 100001 1 laws_toEdgeS_F_ac [(2, none)] = true := by kernel_rfl
theorem laws_toIntS_F_match : matchFn Try.prog rho 100058 1 laws_toIntS_F_ac [(2, none)] = true := by kernel_rfl
theorem impl_CycleEdges_F_match : matchFn Try.prog rho 100084 2 impl_CycleEdges_F_ac [(4, none)] = true := by kernel_rfl
theorem laws_markEdgeS_M_match : matchFn Try.prog rho 200085 2 laws_markEdgeS_M_ac [(4, none)] = true := by kernel_rfl
theorem laws_markIntS_M_match : matchFn Try.prog rho 200086 2 laws_markIntS_M_ac [(4, none)] = true := by kernel_rfl
theorem laws_FnExactCycleEdges_match : matchFn Try.prog rho 82 2 laws_FnExactCycleEdges_ac [(4, none)] = true := by kernel_rfl
def tbl : List (Nat × Fn) := [(5, ⟨2, laws_szEdgeS_ac, [(4, none)]⟩),
  (8, ⟨1, laws_toEdge_ac, [(2, some (true, 4))]⟩),
  (1, ⟨1, laws_toEdgeS_ac, [(2, none)]⟩),
  (16, ⟨2, laws_eqEdge_ac, [(4, none)]⟩),
  (2, ⟨2, laws_eqEdgeS_ac, [(4, none)]⟩),
  (58, ⟨1, laws_toIntS_ac, [(2, none)]⟩),
  (59, ⟨2, laws_eqIntS_ac, [(4, none)]⟩),
  (6, ⟨3, spec_l1In_ac, [(6, none)]⟩),
  (7, ⟨2, spec_l19Less_ac, [(4, none)]⟩),
  (4, ⟨1, spec_AreEdges_ac, [(2, none)]⟩),
  (62, ⟨3, spec_HasEdge_ac, [(6, none)]⟩),
  (61, ⟨2, spec_CheckCycle_ac, [(4, none)]⟩),
  (87, ⟨2, spec_CycleEdges_ac, [(4, none)]⟩),
  (10, ⟨3, impl_in_ac, [(6, none)]⟩),
  (9, ⟨1, impl_isID_ac, [(2, none)]⟩),
  (11, ⟨1, impl_isKey_ac, [(2, none)]⟩),
  (14, ⟨1, cmp_Or_g14_ac, [(2, none)]⟩),
  (15, ⟨1, cmp_isNaN_g15_ac, [(2, none)]⟩),
  (13, ⟨2, cmp_Compare_g13_ac, [(4, none)]⟩),
  (12, ⟨2, impl_compareEdges_ac, [(4, none)]⟩),
  (3, ⟨1, impl_AreEdges_ac, [(2, none)]⟩),
  (43, ⟨2, slices_Index_g43_ac, [(4, none)]⟩),
  (42, ⟨2, slices_Contains_g42_ac, [(4, none)]⟩),
  (66, ⟨2, slices_IndexFunc_g66_ac, [(4, none)]⟩),
  (65, ⟨2, slices_ContainsFunc_g65_ac, [(4, none)]⟩),
  (64, ⟨3, impl_HasEdge_1_ac, [(4, none)]⟩),
  (63, ⟨3, impl_HasEdge_ac, [(6, none)]⟩),
  (60, ⟨2, impl_CheckCycle_ac, [(4, none)]⟩),
  (88, ⟨3, impl_CycleEdges_1_ac, [(4, none)]⟩),
  (84, ⟨2, impl_CycleEdges_ac, [(4, none)]⟩),
  (83, ⟨2, laws_heldEdgeS_ac, [(4, none)]⟩),
  (100001, ⟨1, laws_toEdgeS_F_ac, [(2, none)]⟩),
  (100058, ⟨1, laws_toIntS_F_ac, [(2, none)]⟩),
  (100084, ⟨2, impl_CycleEdges_F_ac, [(4, none)]⟩),
  (200085, ⟨2, laws_markEdgeS_M_ac, [(4, none)]⟩),
  (200086, ⟨2, laws_markIntS_M_ac, [(4, none)]⟩),
  (82, ⟨2, laws_FnExactCycleEdges_ac, [(4, none)]⟩)]
theorem tbl_all : AllMatch Try.prog rho tbl := ⟨laws_szEdgeS_match, laws_toEdge_match, laws_toEdgeS_match, laws_eqEdge_match, laws_eqEdgeS_match, laws_toIntS_match, laws_eqIntS_match, spec_l1In_match, spec_l19Less_match, spec_AreEdges_match, spec_HasEdge_match, spec_CheckCycle_match, spec_CycleEdges_match, impl_in_match, impl_isID_match, impl_isKey_match, cmp_Or_g14_match, cmp_isNaN_g15_match, cmp_Compare_g13_match, impl_compareEdges_match, impl_AreEdges_match, slices_Index_g43_match, slices_Contains_g42_match, slices_IndexFunc_g66_match, slices_ContainsFunc_g65_match, impl_HasEdge_1_match, impl_HasEdge_match, impl_CheckCycle_match, impl_CycleEdges_1_match, impl_CycleEdges_match, laws_heldEdgeS_match, laws_toEdgeS_F_match, laws_toIntS_F_match, impl_CycleEdges_F_match, laws_markEdgeS_M_match, laws_markIntS_M_match, laws_FnExactCycleEdges_match, trivial⟩
noncomputable abbrev Ev : Env := EnvW (look tbl)
theorem good : Good Try.prog rho Ev := good_W (tbl_ok tbl_all) (by kernel_rfl)
theorem g_laws_szEdgeS : G_laws_szEdgeS Ev := { is := is_W rfl }
theorem g_laws_toEdge : G_laws_toEdge Ev := { is := is_W rfl }
theorem g_laws_toEdgeS : G_laws_toEdgeS Ev := { is := is_W rfl, c_laws_toEdge := g_laws_toEdge }
theorem g_laws_eqEdge : G_laws_eqEdge Ev := { is := is_W rfl }
theorem g_laws_eqEdgeS : G_laws_eqEdgeS Ev := { is := is_W rfl, c_laws_eqEdge := g_laws_eqEdge }
theorem g_laws_toIntS : G_laws_toIntS Ev := { is := is_W rfl }
theorem g_laws_eqIntS : G_laws_eqIntS Ev := { is := is_W rfl }
theorem g_spec_l1In : G_spec_l1In Ev := { is := is_W rfl }
theorem g_spec_l19Less : G_spec_l19Less Ev := { is := is_W rfl }
theorem g_spec_AreEdges : G_spec_AreEdges Ev := { is := is_W rfl, c_spec_l1In := g_spec_l1In, c_spec_l19Less := g_spec_l19Less }
theorem g_spec_HasEdge : G_spec_HasEdge Ev := { is := is_W rfl }
theorem g_spec_CheckCycle : G_spec_CheckCycle Ev := { is := is_W rfl, c_spec_AreEdges := g_spec_AreEdges, c_spec_HasEdge := g_spec_HasEdge }
theorem g_spec_CycleEdges : G_spec_CycleEdges Ev := { is := is_W rfl, c_spec_CheckCycle := g_spec_CheckCycle }
theorem g_impl_in : G_impl_in Ev := { is := is_W rfl }
theorem g_impl_isID : G_impl_isID Ev := { is := is_W rfl, c_impl_in := g_impl_in }
theorem g_impl_isKey : G_impl_isKey Ev := { is := is_W rfl, c_impl_in := g_impl_in }
theorem g_cmp_Or_g14 : G_cmp_Or_g14 Ev := { is := is_W rfl }
theorem g_cmp_isNaN_g15 : G_cmp_isNaN_g15 Ev := { is := is_W rfl }
theorem g_cmp_Compare_g13 : G_cmp_Compare_g13 Ev := { is := is_W rfl, c_cmp_isNaN_g15 := g_cmp_isNaN_g15 }
theorem g_impl_compareEdges : G_impl_compareEdges Ev := { is := is_W rfl, c_cmp_Or_g14 := g_cmp_Or_g14, c_cmp_Compare_g13 := g_cmp_Compare_g13 }
theorem g_impl_AreEdges : G_impl_AreEdges Ev := { is := is_W rfl, c_impl_in := g_impl_in, c_impl_isID := g_impl_isID, c_impl_isKey := g_impl_isKey, c_impl_compareEdges := g_impl_compareEdges }
theorem g_slices_Index_g43 : G_slices_Index_g43 Ev := { is := is_W rfl }
theorem g_slices_Contains_g42 : G_slices_Contains_g42 Ev := { is := is_W rfl, c_slices_Index_g43 := g_slices_Index_g43 }
theorem g_slices_IndexFunc_g66 : G_slices_IndexFunc_g66 Ev := { is := is_W rfl }
theorem g_slices_ContainsFunc_g65 : G_slices_ContainsFunc_g65 Ev := { is := is_W rfl, c_slices_IndexFunc_g66 := g_slices_IndexFunc_g66 }
theorem g_impl_HasEdge_1 : G_impl_HasEdge_1 Ev := { is := is_W rfl }
theorem g_impl_HasEdge : G_impl_HasEdge Ev := { is := is_W rfl, c_slices_ContainsFunc_g65 := g_slices_ContainsFunc_g65, c_impl_HasEdge_1 := g_impl_HasEdge_1 }
theorem g_impl_CheckCycle : G_impl_CheckCycle Ev := { is := is_W rfl, c_impl_AreEdges := g_impl_AreEdges, c_slices_Contains_g42 := g_slices_Contains_g42, c_impl_HasEdge := g_impl_HasEdge }
theorem g_impl_CycleEdges_1 : G_impl_CycleEdges_1 Ev := { is := is_W rfl }
theorem g_impl_CycleEdges : G_impl_CycleEdges Ev := { is := is_W rfl, c_impl_CheckCycle := g_impl_CheckCycle, c_slices_IndexFunc_g66 := g_slices_IndexFunc_g66, c_impl_CycleEdges_1 := g_impl_CycleEdges_1 }
theorem g_laws_heldEdgeS : G_laws_heldEdgeS Ev := { is := is_W rfl }
theorem g_laws_toEdgeS_F : G_laws_toEdgeS_F Ev := { is := is_W rfl, c_laws_toEdge := g_laws_toEdge }
theorem g_laws_toIntS_F : G_laws_toIntS_F Ev := { is := is_W rfl }
theorem g_impl_CycleEdges_F : G_impl_CycleEdges_F Ev := { is := is_W rfl, c_impl_CheckCycle := g_impl_CheckCycle, c_slices_IndexFunc_g66 := g_slices_IndexFunc_g66, c_impl_CycleEdges_1 := g_impl_CycleEdges_1 }
theorem g_laws_markEdgeS_M : G_laws_markEdgeS_M Ev := { is := is_W rfl }
theorem g_laws_markIntS_M : G_laws_markIntS_M Ev := { is := is_W rfl }
theorem g_laws_FnExactCycleEdges : G_laws_FnExactCycleEdges Ev := { is := is_W rfl, c_laws_szEdgeS := g_laws_szEdgeS, c_laws_toEdgeS := g_laws_toEdgeS, c_laws_eqEdgeS := g_laws_eqEdgeS, c_laws_toIntS := g_laws_toIntS, c_laws_eqIntS := g_laws_eqIntS, c_spec_CycleEdges := g_spec_CycleEdges, c_impl_CycleEdges := g_impl_CycleEdges, c_laws_heldEdgeS := g_laws_heldEdgeS, c_laws_toEdgeS_F := g_laws_toEdgeS_F, c_laws_toIntS_F := g_laws_toIntS_F, c_impl_CycleEdges_F := g_impl_CycleEdges_F, c_laws_markEdgeS_M := g_laws_markEdgeS_M, c_laws_markIntS_M := g_laws_markIntS_M }
end Go.Proofs.Ytmebdbagcbgddaa.Am.FnExactCycleEdges
