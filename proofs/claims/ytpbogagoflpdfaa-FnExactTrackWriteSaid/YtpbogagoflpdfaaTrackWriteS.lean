import Derived.Test.YtpbogagoflpdfaaChecked
import Derived.KernelRfl
import Derived.Test.YtpbogagoflpdfaaAmW
import Derived.Test.YtpbogagoflpdfaaTrackWriteF0
import Derived.Test.YtpbogagoflpdfaaTrackWriteF1
import Derived.Test.YtpbogagoflpdfaaAmCl
import Derived.Test.YtpbogagoflpdfaaAmIg
namespace Go.Proofs.Ytpbogagoflpdfaa.Am.FnExactTrackWrite
open Go Go.Proofs
set_option linter.unusedVariables false
set_option maxRecDepth 100000
def rho (m : Nat) : FuncId := match [(6, 55), (9, 153), (10, 128), (11, 63), (13, 131), (14, 180), (15, 172), (23, 51), (24, 50), (27, 59), (28, 58), (29, 122), (30, 123), (33, 67), (34, 66), (35, 134), (36, 135), (70, 54), (71, 120), (72, 163), (73, 164), (74, 165), (75, 155), (76, 64), (92, 72), (93, 10), (97, 14), (99, 7), (100, 49), (101, 119), (103, 53), (104, 118), (105, 100), (107, 57), (108, 121), (109, 170), (112, 61), (113, 126), (114, 125), (115, 171), (116, 127), (117, 98), (118, 68), (119, 136), (120, 175), (132, 8), (145, 11), (159, 112), (160, 162), (177, 13), (205, 17), (212, 52), (216, 47), (224, 107), (225, 124), (230, 133), (235, 73), (301, 62), (333, 3), (334, 12), (335, 9), (336, 56), (339, 130), (340, 129), (100027, 59), (100028, 58), (100093, 10), (100107, 57), (100108, 121), (100145, 11), (100222, 60), (100224, 107), (100225, 124), (100334, 12), (200095, 70), (200121, 69), (200122, 137), (200232, 71), (300338, 132), (600338, 132)].lookup m with | some f => f | none => 0
theorem f44_match : matchFn Try.prog rho 101 2 f44_ac [(4, none)] = true := by kernel_rfl
theorem f45_match : matchFn Try.prog rho 100 2 f45_ac [(4, none)] = true := by kernel_rfl
theorem f42_match : matchFn Try.prog rho 99 2 f42_ac [(4, none)] = true := by kernel_rfl
theorem f41_match : matchFn Try.prog rho 24 2 f41_ac [(4, none)] = true := by kernel_rfl
theorem f46_match : matchFn Try.prog rho 23 2 f46_ac [(4, none)] = true := by kernel_rfl
theorem f43_match : matchFn Try.prog rho 132 2 f43_ac [(4, none)] = true := by kernel_rfl
theorem f73_match : matchFn Try.prog rho 6 3 f73_ac [(6, none)] = true := by kernel_rfl
theorem f70_match : matchFn Try.prog rho 105 1 f70_ac [(2, none)] = true := by kernel_rfl
theorem f67_match : matchFn Try.prog rho 104 1 f67_ac [(2, none)] = true := by kernel_rfl
theorem f71_match : matchFn Try.prog rho 216 1 f71_ac [(2, some (true, 5))] = true := by kernel_rfl
theorem f75_match : matchFn Try.prog rho 212 1 f75_ac [(2, some (true, 9))] = true := by kernel_rfl
theorem f68_match : matchFn Try.prog rho 103 1 f68_ac [(2, none)] = true := by kernel_rfl
theorem f74_match : matchFn Try.prog rho 71 2 f74_ac [(4, none)] = true := by kernel_rfl
theorem f69_match : matchFn Try.prog rho 70 1 f69_ac [(2, none)] = true := by kernel_rfl
theorem f76_match : matchFn Try.prog rho 336 2 f76_ac [(4, none)] = true := by kernel_rfl
theorem f72_match : matchFn Try.prog rho 335 4 f72_ac [(8, some (true, 9)), (9, none)] = true := by kernel_rfl
theorem f54_match : matchFn Try.prog rho 109 1 f54_ac [(2, some (true, 5))] = true := by kernel_rfl
theorem f55_match : matchFn Try.prog rho 108 1 f55_ac [(2, none)] = true := by kernel_rfl
theorem f56_match : matchFn Try.prog rho 107 1 f56_ac [(2, none)] = true := by kernel_rfl
theorem f50_match : matchFn Try.prog rho 93 1 f50_ac [(2, some (true, 1))] = true := by kernel_rfl
theorem f47_match : matchFn Try.prog rho 29 1 f47_ac [(2, some (true, 2))] = true := by kernel_rfl
theorem f48_match : matchFn Try.prog rho 28 1 f48_ac [(2, none)] = true := by kernel_rfl
theorem f59_match : matchFn Try.prog rho 30 1 f59_ac [(2, some (true, 2))] = true := by kernel_rfl
theorem f60_match : matchFn Try.prog rho 27 1 f60_ac [(2, none)] = true := by kernel_rfl
theorem f52_match : matchFn Try.prog rho 145 1 f52_ac [(2, some (true, 9))] = true := by kernel_rfl
theorem f66_match : matchFn Try.prog rho 115 2 f66_ac [(4, none)] = true := by kernel_rfl
theorem f65_match : matchFn Try.prog rho 114 2 f65_ac [(4, none)] = true := by kernel_rfl
theorem f19_match : matchFn Try.prog rho 10 3 f19_ac [(6, none)] = true := by kernel_rfl
theorem f23_match : matchFn Try.prog rho 76 1 f23_ac [(2, none)] = true := by kernel_rfl
theorem f20_match : matchFn Try.prog rho 9 1 f20_ac [(2, none)] = true := by kernel_rfl
theorem f8_match : matchFn Try.prog rho 117 1 f8_ac [(2, none)] = true := by kernel_rfl
theorem f4_match : matchFn Try.prog rho 116 1 f4_ac [(2, none)] = true := by kernel_rfl
theorem f6_match : matchFn Try.prog rho 113 1 f6_ac [(2, none)] = true := by kernel_rfl
theorem f5_match : matchFn Try.prog rho 112 1 f5_ac [(2, none)] = true := by kernel_rfl
theorem f22_match : matchFn Try.prog rho 160 1 f22_ac [(2, none)] = true := by kernel_rfl
theorem f3_match : matchFn Try.prog rho 72 1 f3_ac [(2, none)] = true := by kernel_rfl
theorem f21_match : matchFn Try.prog rho 11 1 f21_ac [(2, none)] = true := by kernel_rfl
theorem f2_match : matchFn Try.prog rho 15 1 f2_ac [(2, none)] = true := by kernel_rfl
theorem f0_match : matchFn Try.prog rho 13 2 f0_ac [(4, none)] = true := by kernel_rfl
theorem f1_match : matchFn Try.prog rho 14 1 f1_ac [(2, none)] = true := by kernel_rfl
theorem f18_match : matchFn Try.prog rho 75 2 f18_ac [(4, none)] = true := by kernel_rfl
theorem f16_match : matchFn Try.prog rho 73 1 f16_ac [(2, none)] = true := by kernel_rfl
theorem f17_match : matchFn Try.prog rho 74 1 f17_ac [(2, none)] = true := by kernel_rfl
theorem f7_match : matchFn Try.prog rho 159 1 f7_ac [(2, none)] = true := by kernel_rfl
theorem f14_match : matchFn Try.prog rho 301 1 f14_ac [(2, none)] = true := by kernel_rfl
theorem f62_match : matchFn Try.prog rho 340 3 f62_ac [(6, none), (7, none)] = true := by kernel_rfl
theorem f15_match : matchFn Try.prog rho 339 2 f15_ac [(4, none)] = true := by kernel_rfl
theorem f9_match : matchFn Try.prog rho 230 2 f9_ac [(4, none)] = true := by kernel_rfl
theorem f13_match : matchFn Try.prog rho 100222 1 f13_ac [(2, some (true, 9))] = true := by kernel_rfl
theorem f10_match : matchFn Try.prog rho 334 4 f10_ac [(8, some (true, 9)), (9, none)] = true := by kernel_rfl
theorem f25_match : matchFn Try.prog rho 35 2 f25_ac [(4, none)] = true := by kernel_rfl
theorem f26_match : matchFn Try.prog rho 34 2 f26_ac [(4, none)] = true := by kernel_rfl
theorem f32_match : matchFn Try.prog rho 36 2 f32_ac [(4, none)] = true := by kernel_rfl
theorem f33_match : matchFn Try.prog rho 33 2 f33_ac [(4, none)] = true := by kernel_rfl
theorem f28_match : matchFn Try.prog rho 177 2 f28_ac [(4, none)] = true := by kernel_rfl
theorem f29_match : matchFn Try.prog rho 120 2 f29_ac [(4, none)] = true := by kernel_rfl
theorem f30_match : matchFn Try.prog rho 119 2 f30_ac [(4, none)] = true := by kernel_rfl
theorem f31_match : matchFn Try.prog rho 118 2 f31_ac [(4, none)] = true := by kernel_rfl
theorem f27_match : matchFn Try.prog rho 97 2 f27_ac [(4, none)] = true := by kernel_rfl
theorem f34_match : matchFn Try.prog rho 92 2 f34_ac [(4, none)] = true := by kernel_rfl
theorem f36_match : matchFn Try.prog rho 235 2 f36_ac [(4, none)] = true := by kernel_rfl
theorem f35_match : matchFn Try.prog rho 205 2 f35_ac [(4, none)] = true := by kernel_rfl
theorem f58_match : matchFn Try.prog rho 100108 1 f58_ac [(2, none)] = true := by kernel_rfl
theorem f57_match : matchFn Try.prog rho 100107 1 f57_ac [(2, none)] = true := by kernel_rfl
theorem f51_match : matchFn Try.prog rho 100093 1 f51_ac [(2, some (true, 1))] = true := by kernel_rfl
theorem f49_match : matchFn Try.prog rho 100028 1 f49_ac [(2, none)] = true := by kernel_rfl
theorem f61_match : matchFn Try.prog rho 100027 1 f61_ac [(2, none)] = true := by kernel_rfl
theorem f53_match : matchFn Try.prog rho 100145 1 f53_ac [(2, some (true, 9))] = true := by kernel_rfl
theorem f11_match : matchFn Try.prog rho 100334 4 f11_ac [(8, some (true, 9)), (9, none)] = true := by kernel_rfl
theorem f39_match : matchFn Try.prog rho 200122 2 f39_ac [(4, none)] = true := by kernel_rfl
theorem f38_match : matchFn Try.prog rho 200121 2 f38_ac [(4, none)] = true := by kernel_rfl
theorem f37_match : matchFn Try.prog rho 200095 2 f37_ac [(4, none)] = true := by kernel_rfl
theorem f40_match : matchFn Try.prog rho 200232 2 f40_ac [(4, none)] = true := by kernel_rfl
theorem f24_match : matchFn Try.prog rho 333 4 f24_ac [(8, none)] = true := by kernel_rfl
def tbl : List (Nat × Fn) := [(101, ⟨2, f44_ac, [(4, none)]⟩),
  (100, ⟨2, f45_ac, [(4, none)]⟩),
  (99, ⟨2, f42_ac, [(4, none)]⟩),
  (24, ⟨2, f41_ac, [(4, none)]⟩),
  (23, ⟨2, f46_ac, [(4, none)]⟩),
  (132, ⟨2, f43_ac, [(4, none)]⟩),
  (6, ⟨3, f73_ac, [(6, none)]⟩),
  (105, ⟨1, f70_ac, [(2, none)]⟩),
  (104, ⟨1, f67_ac, [(2, none)]⟩),
  (216, ⟨1, f71_ac, [(2, some (true, 5))]⟩),
  (212, ⟨1, f75_ac, [(2, some (true, 9))]⟩),
  (103, ⟨1, f68_ac, [(2, none)]⟩),
  (71, ⟨2, f74_ac, [(4, none)]⟩),
  (70, ⟨1, f69_ac, [(2, none)]⟩),
  (336, ⟨2, f76_ac, [(4, none)]⟩),
  (335, ⟨4, f72_ac, [(8, some (true, 9)), (9, none)]⟩),
  (109, ⟨1, f54_ac, [(2, some (true, 5))]⟩),
  (108, ⟨1, f55_ac, [(2, none)]⟩),
  (107, ⟨1, f56_ac, [(2, none)]⟩),
  (93, ⟨1, f50_ac, [(2, some (true, 1))]⟩),
  (29, ⟨1, f47_ac, [(2, some (true, 2))]⟩),
  (28, ⟨1, f48_ac, [(2, none)]⟩),
  (30, ⟨1, f59_ac, [(2, some (true, 2))]⟩),
  (27, ⟨1, f60_ac, [(2, none)]⟩),
  (145, ⟨1, f52_ac, [(2, some (true, 9))]⟩),
  (115, ⟨2, f66_ac, [(4, none)]⟩),
  (114, ⟨2, f65_ac, [(4, none)]⟩),
  (10, ⟨3, f19_ac, [(6, none)]⟩),
  (76, ⟨1, f23_ac, [(2, none)]⟩),
  (9, ⟨1, f20_ac, [(2, none)]⟩),
  (117, ⟨1, f8_ac, [(2, none)]⟩),
  (116, ⟨1, f4_ac, [(2, none)]⟩),
  (113, ⟨1, f6_ac, [(2, none)]⟩),
  (112, ⟨1, f5_ac, [(2, none)]⟩),
  (160, ⟨1, f22_ac, [(2, none)]⟩),
  (72, ⟨1, f3_ac, [(2, none)]⟩),
  (11, ⟨1, f21_ac, [(2, none)]⟩),
  (15, ⟨1, f2_ac, [(2, none)]⟩),
  (13, ⟨2, f0_ac, [(4, none)]⟩),
  (14, ⟨1, f1_ac, [(2, none)]⟩),
  (75, ⟨2, f18_ac, [(4, none)]⟩),
  (73, ⟨1, f16_ac, [(2, none)]⟩),
  (74, ⟨1, f17_ac, [(2, none)]⟩),
  (159, ⟨1, f7_ac, [(2, none)]⟩),
  (301, ⟨1, f14_ac, [(2, none)]⟩),
  (340, ⟨3, f62_ac, [(6, none), (7, none)]⟩),
  (339, ⟨2, f15_ac, [(4, none)]⟩),
  (230, ⟨2, f9_ac, [(4, none)]⟩),
  (100222, ⟨1, f13_ac, [(2, some (true, 9))]⟩),
  (334, ⟨4, f10_ac, [(8, some (true, 9)), (9, none)]⟩),
  (35, ⟨2, f25_ac, [(4, none)]⟩),
  (34, ⟨2, f26_ac, [(4, none)]⟩),
  (36, ⟨2, f32_ac, [(4, none)]⟩),
  (33, ⟨2, f33_ac, [(4, none)]⟩),
  (177, ⟨2, f28_ac, [(4, none)]⟩),
  (120, ⟨2, f29_ac, [(4, none)]⟩),
  (119, ⟨2, f30_ac, [(4, none)]⟩),
  (118, ⟨2, f31_ac, [(4, none)]⟩),
  (97, ⟨2, f27_ac, [(4, none)]⟩),
  (92, ⟨2, f34_ac, [(4, none)]⟩),
  (235, ⟨2, f36_ac, [(4, none)]⟩),
  (205, ⟨2, f35_ac, [(4, none)]⟩),
  (100108, ⟨1, f58_ac, [(2, none)]⟩),
  (100107, ⟨1, f57_ac, [(2, none)]⟩),
  (100093, ⟨1, f51_ac, [(2, some (true, 1))]⟩),
  (100028, ⟨1, f49_ac, [(2, none)]⟩),
  (100027, ⟨1, f61_ac, [(2, none)]⟩),
  (100145, ⟨1, f53_ac, [(2, some (true, 9))]⟩),
  (100334, ⟨4, f11_ac, [(8, some (true, 9)), (9, none)]⟩),
  (200122, ⟨2, f39_ac, [(4, none)]⟩),
  (200121, ⟨2, f38_ac, [(4, none)]⟩),
  (200095, ⟨2, f37_ac, [(4, none)]⟩),
  (200232, ⟨2, f40_ac, [(4, none)]⟩),
  (333, ⟨4, f24_ac, [(8, none)]⟩)]
theorem tbl_all : AllMatch Try.prog rho tbl := ⟨f44_match, f45_match, f42_match, f41_match, f46_match, f43_match, f73_match, f70_match, f67_match, f71_match, f75_match, f68_match, f74_match, f69_match, f76_match, f72_match, f54_match, f55_match, f56_match, f50_match, f47_match, f48_match, f59_match, f60_match, f52_match, f66_match, f65_match, f19_match, f23_match, f20_match, f8_match, f4_match, f6_match, f5_match, f22_match, f3_match, f21_match, f2_match, f0_match, f1_match, f18_match, f16_match, f17_match, f7_match, f14_match, f62_match, f15_match, f9_match, f13_match, f10_match, f25_match, f26_match, f32_match, f33_match, f28_match, f29_match, f30_match, f31_match, f27_match, f34_match, f36_match, f35_match, f58_match, f57_match, f51_match, f49_match, f61_match, f53_match, f11_match, f39_match, f38_match, f37_match, f40_match, f24_match, trivial⟩
theorem f63_mV : matchFn Try.prog rho 224 1 f63_ac [(2, none)] = true := by kernel_rfl
theorem f63_mF : matchFn Try.prog rho (100000 + 224) 1 f63_ac [(2, none)] = true := by kernel_rfl
theorem f64_mV : matchFn Try.prog rho 225 1 f64_ac [(2, none)] = true := by kernel_rfl
theorem f64_mF : matchFn Try.prog rho (100000 + 225) 1 f64_ac [(2, none)] = true := by kernel_rfl
def ctbl : List (Nat × Nat × Nat × AC) := [(224, 2, 16, f63_ac), (225, 2, 16, f64_ac)]
theorem ctbl_all : CloneAll Try.prog rho ctbl := ⟨by decide, f63_mV, f63_mF, f63_ok, by decide, f64_mV, f64_mF, f64_ok, trivial⟩
noncomputable def slices_Insert_g338_ren : Shelf.Ren := ⟨fun x => if x = 21 then 132 else if x = 27 then 173 else 174, fun x => if x = 22 then 32 else if x = 23 then 86 else if x = 3 then 3 else if x = 4 then 4 else 0, fun x => x⟩
noncomputable def slices_Insert_g338_zero : Value := ((Try.prog.info? 86).bind fun i => i.zero).getD Go.undef
theorem slices_Insert_g338_insP : InsP Try.prog slices_Insert_g338_ren 2 16 slices_Insert_g338_zero where
  mixed := by kernel_rfl
  f21 := ⟨Try.f132.name, Try.f132.targs, by kernel_rfl⟩
  f27 := ⟨Try.f173, by kernel_rfl, by kernel_rfl, by kernel_rfl, by kernel_rfl, by kernel_rfl⟩
  t3 := by kernel_rfl
  a3 := Try.isAgg3
  z3 := Try.sizeOf3
  t4 := by kernel_rfl
  t22 := by kernel_rfl
  a22 := Try.isAgg32
  z22 := Try.sizeOf32
  z23 := Try.sizeOf86
  i23 := by kernel_rfl
def itbl : List (Nat × Nat × Nat) := [(338, 2, 16)]
theorem itbl_all : InsAll Try.prog rho itbl := ⟨⟨_, _, slices_Insert_g338_insP, by decide, by decide, by kernel_rfl, by kernel_rfl, by kernel_rfl, by kernel_rfl⟩, trivial⟩
noncomputable abbrev Ev : Env := EnvW (insE itbl (cloneE ctbl)) (look tbl)
theorem good : Good Try.prog rho Ev := good_W (tbl_ok tbl_all) (by kernel_rfl) (good_ins itbl_all (good_clone (by kernel_rfl) ctbl_all))
theorem g_f63 : IsClone Ev 224 2 16 := isClone_I (by decide) rfl rfl rfl
theorem g_f64 : IsClone Ev 225 2 16 := isClone_I (by decide) rfl rfl rfl
theorem g_slices_Insert_g338 : IsIns Ev 338 2 16 := isIns_W (by decide) rfl rfl rfl
theorem g_f44 : G_f44 Ev := { is := is_W rfl }
theorem g_f45 : G_f45 Ev := { is := is_W rfl, c_f44 := g_f44 }
theorem g_f42 : G_f42 Ev := { is := is_W rfl, c_f45 := g_f45 }
theorem g_f41 : G_f41 Ev := { is := is_W rfl }
theorem g_f46 : G_f46 Ev := { is := is_W rfl }
theorem g_f43 : G_f43 Ev := { is := is_W rfl, c_f41 := g_f41, c_f46 := g_f46 }
theorem g_f73 : G_f73 Ev := { is := is_W rfl }
theorem g_f70 : G_f70 Ev := { is := is_W rfl, c_f73 := g_f73 }
theorem g_f67 : G_f67 Ev := { is := is_W rfl, c_f70 := g_f70 }
theorem g_f71 : G_f71 Ev := { is := is_W rfl, c_f67 := g_f67 }
theorem g_f75 : G_f75 Ev := { is := is_W rfl }
theorem g_f68 : G_f68 Ev := { is := is_W rfl, c_f67 := g_f67 }
theorem g_f74 : G_f74 Ev := { is := is_W rfl }
theorem g_f69 : G_f69 Ev := { is := is_W rfl, c_f73 := g_f73, c_f74 := g_f74 }
theorem g_f76 : G_f76 Ev := { is := is_W rfl }
theorem g_f72 : G_f72 Ev := { is := is_W rfl, c_f71 := g_f71, c_f75 := g_f75, c_f68 := g_f68, c_f69 := g_f69, c_f73 := g_f73, c_f76 := g_f76 }
theorem g_f54 : G_f54 Ev := { is := is_W rfl }
theorem g_f55 : G_f55 Ev := { is := is_W rfl, c_f54 := g_f54 }
theorem g_f56 : G_f56 Ev := { is := is_W rfl, c_f55 := g_f55 }
theorem g_f50 : G_f50 Ev := { is := is_W rfl, c_f56 := g_f56 }
theorem g_f47 : G_f47 Ev := { is := is_W rfl }
theorem g_f48 : G_f48 Ev := { is := is_W rfl, c_f47 := g_f47 }
theorem g_f59 : G_f59 Ev := { is := is_W rfl }
theorem g_f60 : G_f60 Ev := { is := is_W rfl, c_f59 := g_f59 }
theorem g_f52 : G_f52 Ev := { is := is_W rfl, c_f48 := g_f48, c_f60 := g_f60 }
theorem g_f66 : G_f66 Ev := { is := is_W rfl }
theorem g_f65 : G_f65 Ev := { is := is_W rfl, c_f66 := g_f66 }
theorem g_f19 : G_f19 Ev := { is := is_W rfl }
theorem g_f23 : G_f23 Ev := { is := is_W rfl, c_f19 := g_f19 }
theorem g_f20 : G_f20 Ev := { is := is_W rfl, c_f19 := g_f19 }
theorem g_f8 : G_f8 Ev := { is := is_W rfl, c_f23 := g_f23, c_f19 := g_f19, c_f20 := g_f20 }
theorem g_f4 : G_f4 Ev := { is := is_W rfl, c_f8 := g_f8 }
theorem g_f6 : G_f6 Ev := { is := is_W rfl, c_f4 := g_f4 }
theorem g_f5 : G_f5 Ev := { is := is_W rfl, c_f65 := g_f65, c_f6 := g_f6 }
theorem g_f22 : G_f22 Ev := { is := is_W rfl, c_f19 := g_f19 }
theorem g_f3 : G_f3 Ev := { is := is_W rfl, c_f19 := g_f19 }
theorem g_f21 : G_f21 Ev := { is := is_W rfl, c_f19 := g_f19 }
theorem g_f2 : G_f2 Ev := { is := is_W rfl }
theorem g_f0 : G_f0 Ev := { is := is_W rfl, c_f2 := g_f2 }
theorem g_f1 : G_f1 Ev := { is := is_W rfl }
theorem g_f18 : G_f18 Ev := { is := is_W rfl, c_f0 := g_f0, c_f1 := g_f1 }
theorem g_f16 : G_f16 Ev := { is := is_W rfl, c_f21 := g_f21, c_f19 := g_f19, c_f18 := g_f18 }
theorem g_f17 : G_f17 Ev := { is := is_W rfl, c_f21 := g_f21, c_f23 := g_f23 }
theorem g_f7 : G_f7 Ev := { is := is_W rfl, c_f19 := g_f19, c_f20 := g_f20, c_f22 := g_f22, c_f3 := g_f3, c_f16 := g_f16, c_f17 := g_f17 }
theorem g_f14 : G_f14 Ev := { is := is_W rfl, c_f7 := g_f7 }
theorem g_f62 : G_f62 Ev := { is := is_W rfl }
theorem g_f15 : G_f15 Ev := { is := is_W rfl, c_f0 := g_f0 }
theorem g_f9 : G_f9 Ev := { is := is_W rfl }
theorem g_f13 : G_f13 Ev := { is := is_W rfl, c_f63 := g_f63, c_f64 := g_f64 }
theorem g_f10 : G_f10 Ev := { is := is_W rfl, c_f5 := g_f5, c_f14 := g_f14, c_f21 := g_f21, c_f23 := g_f23, c_f62 := g_f62, c_f15 := g_f15, c_f9 := g_f9, c_f13 := g_f13, c_f64 := g_f64, c_slices_Insert_g338 := g_slices_Insert_g338 }
theorem g_f25 : G_f25 Ev := { is := is_W rfl }
theorem g_f26 : G_f26 Ev := { is := is_W rfl, c_f25 := g_f25 }
theorem g_f32 : G_f32 Ev := { is := is_W rfl }
theorem g_f33 : G_f33 Ev := { is := is_W rfl, c_f32 := g_f32 }
theorem g_f28 : G_f28 Ev := { is := is_W rfl, c_f26 := g_f26, c_f33 := g_f33 }
theorem g_f29 : G_f29 Ev := { is := is_W rfl }
theorem g_f30 : G_f30 Ev := { is := is_W rfl, c_f29 := g_f29 }
theorem g_f31 : G_f31 Ev := { is := is_W rfl, c_f30 := g_f30 }
theorem g_f27 : G_f27 Ev := { is := is_W rfl, c_f31 := g_f31 }
theorem g_f34 : G_f34 Ev := { is := is_W rfl }
theorem g_f36 : G_f36 Ev := { is := is_W rfl }
theorem g_f35 : G_f35 Ev := { is := is_W rfl, c_f34 := g_f34, c_f36 := g_f36 }
theorem g_f58 : G_f58 Ev := { is := is_W rfl, c_f54 := g_f54 }
theorem g_f57 : G_f57 Ev := { is := is_W rfl, c_f58 := g_f58 }
theorem g_f51 : G_f51 Ev := { is := is_W rfl, c_f57 := g_f57 }
theorem g_f49 : G_f49 Ev := { is := is_W rfl, c_f47 := g_f47 }
theorem g_f61 : G_f61 Ev := { is := is_W rfl, c_f59 := g_f59 }
theorem g_f53 : G_f53 Ev := { is := is_W rfl, c_f49 := g_f49, c_f61 := g_f61 }
theorem g_f11 : G_f11 Ev := { is := is_W rfl, c_f5 := g_f5, c_f14 := g_f14, c_f21 := g_f21, c_f23 := g_f23, c_f62 := g_f62, c_f15 := g_f15, c_f9 := g_f9, c_f13 := g_f13, c_f64 := g_f64, c_slices_Insert_g338 := g_slices_Insert_g338 }
theorem g_f39 : G_f39 Ev := { is := is_W rfl }
theorem g_f38 : G_f38 Ev := { is := is_W rfl, c_f39 := g_f39 }
theorem g_f37 : G_f37 Ev := { is := is_W rfl }
theorem g_f40 : G_f40 Ev := { is := is_W rfl }
theorem g_f24 : G_f24 Ev := { is := is_W rfl, c_f42 := g_f42, c_f43 := g_f43, c_f72 := g_f72, c_f50 := g_f50, c_f52 := g_f52, c_f10 := g_f10, c_f28 := g_f28, c_f27 := g_f27, c_f35 := g_f35, c_f51 := g_f51, c_f53 := g_f53, c_f11 := g_f11, c_f38 := g_f38, c_f37 := g_f37, c_f40 := g_f40 }
end Go.Proofs.Ytpbogagoflpdfaa.Am.FnExactTrackWrite
