import Derived.Test.YtmebdbagcbgddaaChecked
import Derived.KernelRfl
import Derived.Test.YtmebdbagcbgddaaAmW
import Derived.Test.YtmebdbagcbgddaaEdgeDistanceF0
namespace Go.Proofs.Ytmebdbagcbgddaa.Am.FnExactEdgeDistance
open Go Go.Proofs
set_option linter.unusedVariables false
set_option maxRecDepth 100000

/-- Which function of the program each number names. -/
def rho (m : Nat) : FuncId := match [(1, 21), (2, 23), (3, 22), (4, 20), (5, 19), (6, 61), (7, 63), (8, 64), (9, 65), (10, 62), (11, 66), (12, 67), (13, 102), (14, 101), (15, 122), (16, 68), (37, 7), (38, 30), (39, 29), (40, 78), (41, 79), (42, 85), (43, 108)].lookup m with | some f => f | none => 0
theorem laws_szEdgeS_match : matchFn Try.prog rho 5 2 laws_szEdgeS_ac [(4, none)] = true := by kernel_rfl
theorem laws_toEdge_match : matchFn Try.prog rho 8 1 laws_toEdge_ac [(2, some (true, 4))] = true := by kernel_rfl
theorem laws_toEdgeS_match : matchFn Try.prog rho 1 1 laws_toEdgeS_ac [(2, none)] = true := by kernel_rfl
theorem laws_eqEdge_match : matchFn Try.prog rho 16 2 laws_eqEdge_ac [(4, none)] = true := by kernel_rfl
theorem laws_eqEdgeS_match : matchFn Try.prog rho 2 2 laws_eqEdgeS_ac [(4, none)] = true := by kernel_rfl
theorem spec_l1In_match : matchFn Try.prog rho 6 3 spec_l1In_ac [(6, none)] = true := by kernel_rfl
theorem spec_l19Less_match : matchFn Try.prog rho 7 2 spec_l19Less_ac [(4, none)] = true := by kernel_rfl
theorem spec_AreEdges_match : matchFn Try.prog rho 4 1 spec_AreEdges_ac [(2, none)] = true := by kernel_rfl
theorem spec_l20Far_match : matchFn Try.prog rho 40 2 spec_l20Far_ac [(4, none)] = true := by kernel_rfl
theorem spec_EdgeDistance_match : matchFn Try.prog rho 39 3 spec_EdgeDistance_ac [(6, none)] = true := by kernel_rfl
theorem impl_in_match : matchFn Try.prog rho 10 3 impl_in_ac [(6, none)] = true := by kernel_rfl
theorem impl_isID_match : matchFn Try.prog rho 9 1 impl_isID_ac [(2, none)] = true := by kernel_rfl
theorem impl_isKey_match : matchFn Try.prog rho 11 1 impl_isKey_ac [(2, none)] = true := by kernel_rfl
theorem cmp_Or_g14_match : matchFn Try.prog rho 14 1 cmp_Or_g14_ac [(2, none)] = true := by kernel_rfl
theorem cmp_isNaN_g15_match : matchFn Try.prog rho 15 1 cmp_isNaN_g15_ac [(2, none)] = true := by kernel_rfl
theorem cmp_Compare_g13_match : matchFn Try.prog rho 13 2 cmp_Compare_g13_ac [(4, none)] = true := by kernel_rfl
theorem impl_compareEdges_match : matchFn Try.prog rho 12 2 impl_compareEdges_ac [(4, none)] = true := by kernel_rfl
theorem impl_AreEdges_match : matchFn Try.prog rho 3 1 impl_AreEdges_ac [(2, none)] = true := by kernel_rfl
theorem slices_Index_g43_match : matchFn Try.prog rho 43 2 slices_Index_g43_ac [(4, none)] = true := by kernel_rfl
theorem slices_Contains_g42_match : matchFn Try.prog rho 42 2 slices_Contains_g42_ac [(4, none)] = true := by kernel_rfl
theorem impl_distances_match : matchFn Try.prog rho 41 2 impl_distances_ac [(4, some (true, 10))] = true := by kernel_rfl
theorem impl_EdgeDistance_match : matchFn Try.prog rho 38 3 impl_EdgeDistance_ac [(6, none)] = true := by kernel_rfl
theorem laws_FnExactEdgeDistance_match : matchFn Try.prog rho 37 3 laws_FnExactEdgeDistance_ac [(6, none)] = true := by kernel_rfl
def tbl : List (Nat × Fn) := [(5, ⟨2, laws_szEdgeS_ac, [(4, none)]⟩),
  (8, ⟨1, laws_toEdge_ac, [(2, some (true, 4))]⟩),
  (1, ⟨1, laws_toEdgeS_ac, [(2, none)]⟩),
  (16, ⟨2, laws_eqEdge_ac, [(4, none)]⟩),
  (2, ⟨2, laws_eqEdgeS_ac, [(4, none)]⟩),
  (6, ⟨3, spec_l1In_ac, [(6, none)]⟩),
  (7, ⟨2, spec_l19Less_ac, [(4, none)]⟩),
  (4, ⟨1, spec_AreEdges_ac, [(2, none)]⟩),
  (40, ⟨2, spec_l20Far_ac, [(4, none)]⟩),
  (39, ⟨3, spec_EdgeDistance_ac, [(6, none)]⟩),
  (10, ⟨3, impl_in_ac, [(6, none)]⟩),
  (9, ⟨1, impl_isID_ac, [(2, none)]⟩),
  (11, ⟨1, impl_isKey_ac, [(2, none)]⟩),
  (14, ⟨1, cmp_Or_g14_ac, [(2, none)]⟩),
  (15, ⟨1, cmp_isNaN_g15_ac, [(2, none)]⟩),
  (13, ⟨2, cmp_Compare_g13_ac, [(4, none)]⟩),
  (12, ⟨2, impl_compareEdges_ac, [(4, none)]⟩),
  (3, ⟨1, impl_AreEdges_ac, [(2, none)]⟩),
  (43, ⟨2, slices_Index_g43_ac, [(4, none)]⟩),
  (42, ⟨2, slices_Contains_g42_ac, [(4, none)]⟩),
  (41, ⟨2, impl_distances_ac, [(4, some (true, 10))]⟩),
  (38, ⟨3, impl_EdgeDistance_ac, [(6, none)]⟩),
  (37, ⟨3, laws_FnExactEdgeDistance_ac, [(6, none)]⟩)]
theorem tbl_all : AllMatch Try.prog rho tbl := ⟨laws_szEdgeS_match, laws_toEdge_match, laws_toEdgeS_match, laws_eqEdge_match, laws_eqEdgeS_match, spec_l1In_match, spec_l19Less_match, spec_AreEdges_match, spec_l20Far_match, spec_EdgeDistance_match, impl_in_match, impl_isID_match, impl_isKey_match, cmp_Or_g14_match, cmp_isNaN_g15_match, cmp_Compare_g13_match, impl_compareEdges_match, impl_AreEdges_match, slices_Index_g43_match, slices_Contains_g42_match, impl_distances_match, impl_EdgeDistance_match, laws_FnExactEdgeDistance_match, trivial⟩
noncomputable abbrev Ev : Env := EnvW (look tbl)
theorem good : Good Try.prog rho Ev := good_W (tbl_ok tbl_all) (by kernel_rfl)
theorem g_laws_szEdgeS : G_laws_szEdgeS Ev := ⟨is_W rfl⟩
theorem g_laws_toEdge : G_laws_toEdge Ev := ⟨is_W rfl⟩
theorem g_laws_toEdgeS : G_laws_toEdgeS Ev := ⟨is_W rfl, g_laws_toEdge⟩
theorem g_laws_eqEdge : G_laws_eqEdge Ev := ⟨is_W rfl⟩
theorem g_laws_eqEdgeS : G_laws_eqEdgeS Ev := ⟨is_W rfl, g_laws_eqEdge⟩
theorem g_spec_l1In : G_spec_l1In Ev := ⟨is_W rfl⟩
theorem g_spec_l19Less : G_spec_l19Less Ev := ⟨is_W rfl⟩
theorem g_spec_AreEdges : G_spec_AreEdges Ev := ⟨is_W rfl, g_spec_l1In, g_spec_l19Less⟩
theorem g_spec_l20Far : G_spec_l20Far Ev := ⟨is_W rfl⟩
theorem g_spec_EdgeDistance : G_spec_EdgeDistance Ev := ⟨is_W rfl, g_spec_AreEdges, g_spec_l1In, g_spec_l20Far⟩
theorem g_impl_in : G_impl_in Ev := ⟨is_W rfl⟩
theorem g_impl_isID : G_impl_isID Ev := ⟨is_W rfl, g_impl_in⟩
theorem g_impl_isKey : G_impl_isKey Ev := ⟨is_W rfl, g_impl_in⟩
theorem g_cmp_Or_g14 : G_cmp_Or_g14 Ev := ⟨is_W rfl⟩
theorem g_cmp_isNaN_g15 : G_cmp_isNaN_g15 Ev := ⟨is_W rfl⟩
theorem g_cmp_Compare_g13 : G_cmp_Compare_g13 Ev := ⟨is_W rfl, g_cmp_isNaN_g15⟩
theorem g_impl_compareEdges : G_impl_compareEdges Ev := ⟨is_W rfl, g_cmp_Or_g14, g_cmp_Compare_g13⟩
theorem g_impl_AreEdges : G_impl_AreEdges Ev := ⟨is_W rfl, g_impl_in, g_impl_isID, g_impl_isKey, g_impl_compareEdges⟩
theorem g_slices_Index_g43 : G_slices_Index_g43 Ev := ⟨is_W rfl⟩
theorem g_slices_Contains_g42 : G_slices_Contains_g42 Ev := ⟨is_W rfl, g_slices_Index_g43⟩
theorem g_impl_distances : G_impl_distances Ev := ⟨is_W rfl, g_slices_Contains_g42⟩
theorem g_impl_EdgeDistance : G_impl_EdgeDistance Ev := ⟨is_W rfl, g_impl_AreEdges, g_impl_isID, g_impl_distances⟩
theorem g_laws_FnExactEdgeDistance : G_laws_FnExactEdgeDistance Ev := ⟨is_W rfl, g_laws_szEdgeS, g_laws_toEdgeS, g_laws_eqEdgeS, g_spec_EdgeDistance, g_impl_EdgeDistance⟩
end Go.Proofs.Ytmebdbagcbgddaa.Am.FnExactEdgeDistance
