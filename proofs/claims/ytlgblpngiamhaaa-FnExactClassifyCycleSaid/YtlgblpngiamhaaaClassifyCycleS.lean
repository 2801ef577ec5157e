import Derived.Test.YtlgblpngiamhaaaChecked
import Derived.KernelRfl
import Derived.Shelf.SlGeneric
import Derived.Ground.SlsfProg
import Derived.Test.YtlgblpngiamhaaaAmW
import Derived.Test.YtlgblpngiamhaaaClassifyCycleF0
import Derived.Test.YtlgblpngiamhaaaClassifyCycleF1
import Derived.Test.YtlgblpngiamhaaaClassifyCycleP0
namespace Go.Proofs.Ytlgblpngiamhaaa.Am.FnExactClassifyCycle
open Go Go.Proofs
set_option linter.unusedVariables false
set_option maxRecDepth 100000
def rho (m : Nat) : FuncId := match [(3, 81), (4, 79), (6, 67), (7, 108), (9, 104), (10, 102), (11, 72), (12, 112), (13, 121), (14, 120), (15, 127), (23, 47), (24, 46), (27, 51), (28, 50), (29, 90), (30, 91), (33, 60), (34, 59), (35, 98), (36, 99), (42, 40), (43, 85), (45, 8), (46, 11), (47, 110), (48, 77), (49, 6), (50, 13), (51, 15), (52, 43), (53, 87), (54, 41), (55, 86), (56, 17), (58, 9), (59, 12), (60, 34), (61, 30), (62, 78), (63, 82), (64, 114), (65, 44), (66, 88), (70, 66), (71, 100), (72, 115), (73, 116), (74, 117), (75, 106), (76, 103), (241, 31), (243, 49), (244, 76), (245, 89), (247, 53), (249, 93), (250, 92), (251, 36), (252, 83), (253, 54), (353, 29), (356, 75), (357, 80), (363, 109), (408, 33), (437, 3), (438, 10), (439, 7), (440, 32), (441, 45), (442, 42), (443, 39), (444, 38), (445, 37), (446, 35), (447, 84), (200362, 111), (300361, 113), (500363, 109)].lookup m with | some f => f | none => 0
theorem f43_match : matchFn Try.prog rho 24 2 f43_ac [(4, none)] = true := by kernel_rfl
theorem f44_match : matchFn Try.prog rho 23 2 f44_ac [(4, none)] = true := by kernel_rfl
theorem f41_match : matchFn Try.prog rho 50 2 f41_ac [(4, none)] = true := by kernel_rfl
theorem f42_match : matchFn Try.prog rho 49 2 f42_ac [(4, none)] = true := by kernel_rfl
theorem f66_match : matchFn Try.prog rho 241 2 f66_ac [(4, none)] = true := by kernel_rfl
theorem f75_match : matchFn Try.prog rho 6 3 f75_ac [(6, none)] = true := by kernel_rfl
theorem f77_match : matchFn Try.prog rho 71 2 f77_ac [(4, none)] = true := by kernel_rfl
theorem f69_match : matchFn Try.prog rho 70 1 f69_ac [(2, none)] = true := by kernel_rfl
theorem f71_match : matchFn Try.prog rho 244 2 f71_ac [(4, none)] = true := by kernel_rfl
theorem f72_match : matchFn Try.prog rho 245 1 f72_ac [(2, some (true, 9))] = true := by kernel_rfl
theorem f68_match : matchFn Try.prog rho 243 1 f68_ac [(2, none)] = true := by kernel_rfl
theorem f73_match : matchFn Try.prog rho 7 2 f73_ac [(4, none)] = true := by kernel_rfl
theorem f74_match : matchFn Try.prog rho 356 2 f74_ac [(4, none)] = true := by kernel_rfl
theorem f70_match : matchFn Try.prog rho 48 3 f70_ac [(6, none)] = true := by kernel_rfl
theorem f63_match : matchFn Try.prog rho 353 1 f63_ac [(2, none)] = true := by kernel_rfl
theorem f67_match : matchFn Try.prog rho 62 3 f67_ac [(6, none)] = true := by kernel_rfl
theorem f62_match : matchFn Try.prog rho 4 1 f62_ac [(2, none)] = true := by kernel_rfl
theorem f64_match : matchFn Try.prog rho 61 2 f64_ac [(4, none)] = true := by kernel_rfl
theorem f76_match : matchFn Try.prog rho 440 3 f76_ac [(6, none)] = true := by kernel_rfl
theorem f65_match : matchFn Try.prog rho 439 2 f65_ac [(4, none)] = true := by kernel_rfl
theorem f48_match : matchFn Try.prog rho 29 1 f48_ac [(2, some (true, 2))] = true := by kernel_rfl
theorem f49_match : matchFn Try.prog rho 28 1 f49_ac [(2, none)] = true := by kernel_rfl
theorem f50_match : matchFn Try.prog rho 30 1 f50_ac [(2, some (true, 2))] = true := by kernel_rfl
theorem f51_match : matchFn Try.prog rho 27 1 f51_ac [(2, none)] = true := by kernel_rfl
theorem f45_match : matchFn Try.prog rho 51 1 f45_ac [(2, some (true, 4))] = true := by kernel_rfl
theorem f46_match : matchFn Try.prog rho 45 1 f46_ac [(2, none)] = true := by kernel_rfl
theorem f47_match : matchFn Try.prog rho 58 1 f47_ac [(2, none)] = true := by kernel_rfl
theorem f57_match : matchFn Try.prog rho 253 2 f57_ac [(4, none)] = true := by kernel_rfl
theorem f15_match : matchFn Try.prog rho 252 2 f15_ac [(3, none)] = true := by kernel_rfl
theorem f14_match : matchFn Try.prog rho 251 2 f14_ac [(4, none)] = true := by kernel_rfl
theorem f28_match : matchFn Try.prog rho 10 3 f28_ac [(6, none)] = true := by kernel_rfl
theorem f30_match : matchFn Try.prog rho 9 1 f30_ac [(2, none)] = true := by kernel_rfl
theorem f19_match : matchFn Try.prog rho 72 1 f19_ac [(2, none)] = true := by kernel_rfl
theorem f31_match : matchFn Try.prog rho 11 1 f31_ac [(2, none)] = true := by kernel_rfl
theorem f1_match : matchFn Try.prog rho 14 1 f1_ac [(2, none)] = true := by kernel_rfl
theorem f2_match : matchFn Try.prog rho 15 1 f2_ac [(2, none)] = true := by kernel_rfl
theorem f0_match : matchFn Try.prog rho 13 2 f0_ac [(4, none)] = true := by kernel_rfl
theorem f25_match : matchFn Try.prog rho 75 2 f25_ac [(4, none)] = true := by kernel_rfl
theorem f22_match : matchFn Try.prog rho 73 1 f22_ac [(2, none)] = true := by kernel_rfl
theorem f32_match : matchFn Try.prog rho 76 1 f32_ac [(2, none)] = true := by kernel_rfl
theorem f23_match : matchFn Try.prog rho 74 1 f23_ac [(2, none)] = true := by kernel_rfl
theorem f29_match : matchFn Try.prog rho 250 1 f29_ac [(2, none)] = true := by kernel_rfl
theorem f59_match : matchFn Try.prog rho 55 2 f59_ac [(4, none)] = true := by kernel_rfl
theorem f54_match : matchFn Try.prog rho 54 2 f54_ac [(4, none)] = true := by kernel_rfl
theorem f13_match : matchFn Try.prog rho 53 2 f13_ac [(3, none)] = true := by kernel_rfl
theorem f12_match : matchFn Try.prog rho 52 2 f12_ac [(4, none)] = true := by kernel_rfl
theorem f21_match : matchFn Try.prog rho 249 2 f21_ac [(4, none)] = true := by kernel_rfl
theorem f18_match : matchFn Try.prog rho 247 1 f18_ac [(2, none)] = true := by kernel_rfl
theorem f20_match : matchFn Try.prog rho 47 3 f20_ac [(6, none)] = true := by kernel_rfl
theorem f24_match : matchFn Try.prog rho 12 2 f24_ac [(4, none)] = true := by kernel_rfl
theorem f52_match : matchFn Try.prog rho 300361 1 f52_ac [(2, none)] = true := by kernel_rfl
theorem f27_match : matchFn Try.prog rho 500363 5 f27_ac [] = true := by kernel_rfl
theorem f26_match : matchFn Try.prog rho 357 1 f26_ac [(2, none)] = true := by kernel_rfl
theorem f4_match : matchFn Try.prog rho 408 1 f4_ac [(2, none)] = true := by kernel_rfl
theorem f61_match : matchFn Try.prog rho 43 2 f61_ac [(4, none)] = true := by kernel_rfl
theorem f56_match : matchFn Try.prog rho 42 2 f56_ac [(4, none)] = true := by kernel_rfl
theorem f3_match : matchFn Try.prog rho 3 1 f3_ac [(2, none)] = true := by kernel_rfl
theorem f60_match : matchFn Try.prog rho 66 2 f60_ac [(4, none)] = true := by kernel_rfl
theorem f55_match : matchFn Try.prog rho 65 2 f55_ac [(4, none)] = true := by kernel_rfl
theorem f17_match : matchFn Try.prog rho 64 3 f17_ac [(4, none)] = true := by kernel_rfl
theorem f16_match : matchFn Try.prog rho 63 3 f16_ac [(6, none)] = true := by kernel_rfl
theorem f5_match : matchFn Try.prog rho 60 2 f5_ac [(4, none)] = true := by kernel_rfl
theorem f7_match : matchFn Try.prog rho 446 2 f7_ac [(3, some (true, 4))] = true := by kernel_rfl
theorem f58_match : matchFn Try.prog rho 447 2 f58_ac [(4, none)] = true := by kernel_rfl
theorem f53_match : matchFn Try.prog rho 445 2 f53_ac [(4, none)] = true := by kernel_rfl
theorem f8_match : matchFn Try.prog rho 444 2 f8_ac [(3, none)] = true := by kernel_rfl
theorem f9_match : matchFn Try.prog rho 443 2 f9_ac [(3, none)] = true := by kernel_rfl
theorem f10_match : matchFn Try.prog rho 442 2 f10_ac [(3, none)] = true := by kernel_rfl
theorem f11_match : matchFn Try.prog rho 441 2 f11_ac [(3, none)] = true := by kernel_rfl
theorem f6_match : matchFn Try.prog rho 438 2 f6_ac [(4, none)] = true := by kernel_rfl
theorem f37_match : matchFn Try.prog rho 35 2 f37_ac [(4, none)] = true := by kernel_rfl
theorem f38_match : matchFn Try.prog rho 34 2 f38_ac [(4, none)] = true := by kernel_rfl
theorem f39_match : matchFn Try.prog rho 36 2 f39_ac [(4, none)] = true := by kernel_rfl
theorem f40_match : matchFn Try.prog rho 33 2 f40_ac [(4, none)] = true := by kernel_rfl
theorem f34_match : matchFn Try.prog rho 56 2 f34_ac [(4, none)] = true := by kernel_rfl
theorem f35_match : matchFn Try.prog rho 46 2 f35_ac [(4, none)] = true := by kernel_rfl
theorem f36_match : matchFn Try.prog rho 59 2 f36_ac [(4, none)] = true := by kernel_rfl
theorem f33_match : matchFn Try.prog rho 437 2 f33_ac [(4, none)] = true := by kernel_rfl
def tbl : List (Nat × Fn) := [(24, ⟨2, f43_ac, [(4, none)]⟩),
  (23, ⟨2, f44_ac, [(4, none)]⟩),
  (50, ⟨2, f41_ac, [(4, none)]⟩),
  (49, ⟨2, f42_ac, [(4, none)]⟩),
  (241, ⟨2, f66_ac, [(4, none)]⟩),
  (6, ⟨3, f75_ac, [(6, none)]⟩),
  (71, ⟨2, f77_ac, [(4, none)]⟩),
  (70, ⟨1, f69_ac, [(2, none)]⟩),
  (244, ⟨2, f71_ac, [(4, none)]⟩),
  (245, ⟨1, f72_ac, [(2, some (true, 9))]⟩),
  (243, ⟨1, f68_ac, [(2, none)]⟩),
  (7, ⟨2, f73_ac, [(4, none)]⟩),
  (356, ⟨2, f74_ac, [(4, none)]⟩),
  (48, ⟨3, f70_ac, [(6, none)]⟩),
  (353, ⟨1, f63_ac, [(2, none)]⟩),
  (62, ⟨3, f67_ac, [(6, none)]⟩),
  (4, ⟨1, f62_ac, [(2, none)]⟩),
  (61, ⟨2, f64_ac, [(4, none)]⟩),
  (440, ⟨3, f76_ac, [(6, none)]⟩),
  (439, ⟨2, f65_ac, [(4, none)]⟩),
  (29, ⟨1, f48_ac, [(2, some (true, 2))]⟩),
  (28, ⟨1, f49_ac, [(2, none)]⟩),
  (30, ⟨1, f50_ac, [(2, some (true, 2))]⟩),
  (27, ⟨1, f51_ac, [(2, none)]⟩),
  (51, ⟨1, f45_ac, [(2, some (true, 4))]⟩),
  (45, ⟨1, f46_ac, [(2, none)]⟩),
  (58, ⟨1, f47_ac, [(2, none)]⟩),
  (253, ⟨2, f57_ac, [(4, none)]⟩),
  (252, ⟨2, f15_ac, [(3, none)]⟩),
  (251, ⟨2, f14_ac, [(4, none)]⟩),
  (10, ⟨3, f28_ac, [(6, none)]⟩),
  (9, ⟨1, f30_ac, [(2, none)]⟩),
  (72, ⟨1, f19_ac, [(2, none)]⟩),
  (11, ⟨1, f31_ac, [(2, none)]⟩),
  (14, ⟨1, f1_ac, [(2, none)]⟩),
  (15, ⟨1, f2_ac, [(2, none)]⟩),
  (13, ⟨2, f0_ac, [(4, none)]⟩),
  (75, ⟨2, f25_ac, [(4, none)]⟩),
  (73, ⟨1, f22_ac, [(2, none)]⟩),
  (76, ⟨1, f32_ac, [(2, none)]⟩),
  (74, ⟨1, f23_ac, [(2, none)]⟩),
  (250, ⟨1, f29_ac, [(2, none)]⟩),
  (55, ⟨2, f59_ac, [(4, none)]⟩),
  (54, ⟨2, f54_ac, [(4, none)]⟩),
  (53, ⟨2, f13_ac, [(3, none)]⟩),
  (52, ⟨2, f12_ac, [(4, none)]⟩),
  (249, ⟨2, f21_ac, [(4, none)]⟩),
  (247, ⟨1, f18_ac, [(2, none)]⟩),
  (47, ⟨3, f20_ac, [(6, none)]⟩),
  (12, ⟨2, f24_ac, [(4, none)]⟩),
  (300361, ⟨1, f52_ac, [(2, none)]⟩),
  (500363, ⟨5, f27_ac, []⟩),
  (357, ⟨1, f26_ac, [(2, none)]⟩),
  (408, ⟨1, f4_ac, [(2, none)]⟩),
  (43, ⟨2, f61_ac, [(4, none)]⟩),
  (42, ⟨2, f56_ac, [(4, none)]⟩),
  (3, ⟨1, f3_ac, [(2, none)]⟩),
  (66, ⟨2, f60_ac, [(4, none)]⟩),
  (65, ⟨2, f55_ac, [(4, none)]⟩),
  (64, ⟨3, f17_ac, [(4, none)]⟩),
  (63, ⟨3, f16_ac, [(6, none)]⟩),
  (60, ⟨2, f5_ac, [(4, none)]⟩),
  (446, ⟨2, f7_ac, [(3, some (true, 4))]⟩),
  (447, ⟨2, f58_ac, [(4, none)]⟩),
  (445, ⟨2, f53_ac, [(4, none)]⟩),
  (444, ⟨2, f8_ac, [(3, none)]⟩),
  (443, ⟨2, f9_ac, [(3, none)]⟩),
  (442, ⟨2, f10_ac, [(3, none)]⟩),
  (441, ⟨2, f11_ac, [(3, none)]⟩),
  (438, ⟨2, f6_ac, [(4, none)]⟩),
  (35, ⟨2, f37_ac, [(4, none)]⟩),
  (34, ⟨2, f38_ac, [(4, none)]⟩),
  (36, ⟨2, f39_ac, [(4, none)]⟩),
  (33, ⟨2, f40_ac, [(4, none)]⟩),
  (56, ⟨2, f34_ac, [(4, none)]⟩),
  (46, ⟨2, f35_ac, [(4, none)]⟩),
  (59, ⟨2, f36_ac, [(4, none)]⟩),
  (437, ⟨2, f33_ac, [(4, none)]⟩)]
theorem tbl_all : AllMatch Try.prog rho tbl := ⟨f43_match, f44_match, f41_match, f42_match, f66_match, f75_match, f77_match, f69_match, f71_match, f72_match, f68_match, f73_match, f74_match, f70_match, f63_match, f67_match, f62_match, f64_match, f76_match, f65_match, f48_match, f49_match, f50_match, f51_match, f45_match, f46_match, f47_match, f57_match, f15_match, f14_match, f28_match, f30_match, f19_match, f31_match, f1_match, f2_match, f0_match, f25_match, f22_match, f32_match, f23_match, f29_match, f59_match, f54_match, f13_match, f12_match, f21_match, f18_match, f20_match, f24_match, f52_match, f27_match, f26_match, f4_match, f61_match, f56_match, f3_match, f60_match, f55_match, f17_match, f16_match, f5_match, f7_match, f58_match, f53_match, f8_match, f9_match, f10_match, f11_match, f6_match, f37_match, f38_match, f39_match, f40_match, f34_match, f35_match, f36_match, f33_match, trivial⟩
noncomputable abbrev E1 : Env := EnvW noEnv (look tbl)
theorem good1 : Good Try.prog rho E1 := good_W (tbl_ok tbl_all) (by kernel_rfl) good_no
theorem g1_f1 : G_f1 E1 := { is := is_W rfl }
theorem g1_f2 : G_f2 E1 := { is := is_W rfl }
theorem g1_f0 : G_f0 E1 := { is := is_W rfl, c_f2 := g1_f2 }
theorem g1_f24 : G_f24 E1 := { is := is_W rfl, c_f1 := g1_f1, c_f0 := g1_f0 }
shelf_lay_g SlLaysF0.n6 Slsf 6 at Try 111 as Try.sortEdge
noncomputable abbrev Ev : Env := EnvW (sortE (200000 + 362) 12 edgeCmp noEnv) (look tbl)
theorem good : Good Try.prog rho Ev := good_W (tbl_ok tbl_all) (by kernel_rfl) (good_sortE Try.sortEdge Try.isAgg73 Try.sizeOf73 good1 good_no (by decide) (by decide) rfl (by kernel_rfl) (fun a b => f24_is g1_f24 a b) edge_swo edge_tot)
theorem g_f43 : G_f43 Ev := { is := is_W rfl }
theorem g_f44 : G_f44 Ev := { is := is_W rfl }
theorem g_f41 : G_f41 Ev := { is := is_W rfl, c_f43 := g_f43, c_f44 := g_f44 }
theorem g_f42 : G_f42 Ev := { is := is_W rfl, c_f41 := g_f41 }
theorem g_f66 : G_f66 Ev := { is := is_W rfl }
theorem g_f75 : G_f75 Ev := { is := is_W rfl }
theorem g_f77 : G_f77 Ev := { is := is_W rfl }
theorem g_f69 : G_f69 Ev := { is := is_W rfl, c_f75 := g_f75, c_f77 := g_f77 }
theorem g_f71 : G_f71 Ev := { is := is_W rfl }
theorem g_f72 : G_f72 Ev := { is := is_W rfl }
theorem g_f68 : G_f68 Ev := { is := is_W rfl, c_f66 := g_f66, c_f69 := g_f69, c_f71 := g_f71, c_f72 := g_f72 }
theorem g_f73 : G_f73 Ev := { is := is_W rfl }
theorem g_f74 : G_f74 Ev := { is := is_W rfl, c_f73 := g_f73 }
theorem g_f70 : G_f70 Ev := { is := is_W rfl }
theorem g_f63 : G_f63 Ev := { is := is_W rfl, c_f68 := g_f68, c_f74 := g_f74, c_f71 := g_f71, c_f70 := g_f70 }
theorem g_f67 : G_f67 Ev := { is := is_W rfl }
theorem g_f62 : G_f62 Ev := { is := is_W rfl, c_f75 := g_f75, c_f73 := g_f73 }
theorem g_f64 : G_f64 Ev := { is := is_W rfl, c_f67 := g_f67, c_f62 := g_f62 }
theorem g_f76 : G_f76 Ev := { is := is_W rfl }
theorem g_f65 : G_f65 Ev := { is := is_W rfl, c_f63 := g_f63, c_f64 := g_f64, c_f66 := g_f66, c_f76 := g_f76 }
theorem g_f48 : G_f48 Ev := { is := is_W rfl }
theorem g_f49 : G_f49 Ev := { is := is_W rfl, c_f48 := g_f48 }
theorem g_f50 : G_f50 Ev := { is := is_W rfl }
theorem g_f51 : G_f51 Ev := { is := is_W rfl, c_f50 := g_f50 }
theorem g_f45 : G_f45 Ev := { is := is_W rfl, c_f49 := g_f49, c_f51 := g_f51 }
theorem g_f46 : G_f46 Ev := { is := is_W rfl, c_f45 := g_f45 }
theorem g_f47 : G_f47 Ev := { is := is_W rfl }
theorem g_f57 : G_f57 Ev := { is := is_W rfl }
theorem g_f15 : G_f15 Ev := { is := is_W rfl }
theorem g_f14 : G_f14 Ev := { is := is_W rfl, c_f57 := g_f57, c_f15 := g_f15 }
theorem g_f28 : G_f28 Ev := { is := is_W rfl }
theorem g_f30 : G_f30 Ev := { is := is_W rfl, c_f28 := g_f28 }
theorem g_f19 : G_f19 Ev := { is := is_W rfl, c_f28 := g_f28 }
theorem g_f31 : G_f31 Ev := { is := is_W rfl, c_f28 := g_f28 }
theorem g_f1 : G_f1 Ev := { is := is_W rfl }
theorem g_f2 : G_f2 Ev := { is := is_W rfl }
theorem g_f0 : G_f0 Ev := { is := is_W rfl, c_f2 := g_f2 }
theorem g_f25 : G_f25 Ev := { is := is_W rfl, c_f1 := g_f1, c_f0 := g_f0 }
theorem g_f22 : G_f22 Ev := { is := is_W rfl, c_f31 := g_f31, c_f28 := g_f28, c_f25 := g_f25 }
theorem g_f32 : G_f32 Ev := { is := is_W rfl, c_f28 := g_f28 }
theorem g_f23 : G_f23 Ev := { is := is_W rfl, c_f31 := g_f31, c_f32 := g_f32 }
theorem g_f29 : G_f29 Ev := { is := is_W rfl, c_f30 := g_f30, c_f19 := g_f19, c_f22 := g_f22, c_f23 := g_f23 }
theorem g_f59 : G_f59 Ev := { is := is_W rfl }
theorem g_f54 : G_f54 Ev := { is := is_W rfl, c_f59 := g_f59 }
theorem g_f13 : G_f13 Ev := { is := is_W rfl }
theorem g_f12 : G_f12 Ev := { is := is_W rfl, c_f54 := g_f54, c_f13 := g_f13 }
theorem g_f21 : G_f21 Ev := { is := is_W rfl, c_f12 := g_f12 }
theorem g_f18 : G_f18 Ev := { is := is_W rfl, c_f14 := g_f14, c_f29 := g_f29, c_f21 := g_f21 }
theorem g_f20 : G_f20 Ev := { is := is_W rfl, c_f12 := g_f12 }
theorem g_f24 : G_f24 Ev := { is := is_W rfl, c_f1 := g_f1, c_f0 := g_f0 }
theorem g_slices_SortFunc_g362 : IsSort Ev 362 12 := isSort_W rfl (fun a b => f24_is g_f24 a b)
theorem g_f52 : G_f52 Ev := { is := is_W rfl }
theorem g_f27 : G_f27 Ev := { is := is_W rfl }
theorem g_f26 : G_f26 Ev := { is := is_W rfl, c_f21 := g_f21, c_f20 := g_f20, c_f24 := g_f24, c_f52 := g_f52, c_f27 := g_f27, c_slices_SortFunc_g362 := g_slices_SortFunc_g362 }
theorem g_f4 : G_f4 Ev := { is := is_W rfl, c_f18 := g_f18, c_f26 := g_f26 }
theorem g_f61 : G_f61 Ev := { is := is_W rfl }
theorem g_f56 : G_f56 Ev := { is := is_W rfl, c_f61 := g_f61 }
theorem g_f3 : G_f3 Ev := { is := is_W rfl, c_f31 := g_f31, c_f28 := g_f28, c_f30 := g_f30, c_f24 := g_f24 }
theorem g_f60 : G_f60 Ev := { is := is_W rfl }
theorem g_f55 : G_f55 Ev := { is := is_W rfl, c_f60 := g_f60 }
theorem g_f17 : G_f17 Ev := { is := is_W rfl }
theorem g_f16 : G_f16 Ev := { is := is_W rfl, c_f55 := g_f55, c_f17 := g_f17 }
theorem g_f5 : G_f5 Ev := { is := is_W rfl, c_f56 := g_f56, c_f3 := g_f3, c_f16 := g_f16 }
theorem g_f7 : G_f7 Ev := { is := is_W rfl, c_f14 := g_f14 }
theorem g_f58 : G_f58 Ev := { is := is_W rfl }
theorem g_f53 : G_f53 Ev := { is := is_W rfl, c_f58 := g_f58 }
theorem g_f8 : G_f8 Ev := { is := is_W rfl }
theorem g_f9 : G_f9 Ev := { is := is_W rfl, c_f56 := g_f56 }
theorem g_f10 : G_f10 Ev := { is := is_W rfl, c_f12 := g_f12 }
theorem g_f11 : G_f11 Ev := { is := is_W rfl }
theorem g_f6 : G_f6 Ev := { is := is_W rfl, c_f4 := g_f4, c_f5 := g_f5, c_f7 := g_f7, c_f53 := g_f53, c_f8 := g_f8, c_f9 := g_f9, c_f54 := g_f54, c_f10 := g_f10, c_f55 := g_f55, c_f11 := g_f11 }
theorem g_f37 : G_f37 Ev := { is := is_W rfl }
theorem g_f38 : G_f38 Ev := { is := is_W rfl, c_f37 := g_f37 }
theorem g_f39 : G_f39 Ev := { is := is_W rfl }
theorem g_f40 : G_f40 Ev := { is := is_W rfl, c_f39 := g_f39 }
theorem g_f34 : G_f34 Ev := { is := is_W rfl, c_f38 := g_f38, c_f40 := g_f40 }
theorem g_f35 : G_f35 Ev := { is := is_W rfl, c_f34 := g_f34 }
theorem g_f36 : G_f36 Ev := { is := is_W rfl }
theorem g_f33 : G_f33 Ev := { is := is_W rfl, c_f42 := g_f42, c_f65 := g_f65, c_f46 := g_f46, c_f47 := g_f47, c_f6 := g_f6, c_f35 := g_f35, c_f36 := g_f36 }
end Go.Proofs.Ytlgblpngiamhaaa.Am.FnExactClassifyCycle
