import Derived.Test.YtlgblpngiamhaaaChecked
import Derived.KernelRfl
import Derived.Test.YtlgblpngiamhaaaAmW
import Derived.Test.YtlgblpngiamhaaaTrackReadF0
import Derived.Test.YtlgblpngiamhaaaAmCl
import Derived.Test.YtlgblpngiamhaaaAmIg
namespace Go.Proofs.Ytlgblpngiamhaaa.Am.FnExactTrackRead
open Go Go.Proofs
set_option linter.unusedVariables false
set_option maxRecDepth 100000
def rho (m : Nat) : FuncId := match [(6, 67), (9, 104), (10, 102), (11, 72), (13, 121), (14, 120), (15, 127), (23, 47), (24, 46), (27, 51), (28, 50), (29, 90), (30, 91), (33, 60), (34, 59), (35, 98), (36, 99), (70, 66), (71, 100), (72, 115), (73, 116), (74, 117), (75, 106), (76, 103), (92, 63), (105, 68), (109, 24), (117, 73), (132, 21), (145, 23), (159, 101), (160, 119), (177, 26), (205, 28), (212, 65), (222, 70), (224, 96), (225, 97), (235, 64), (297, 5), (298, 25), (299, 22), (300, 69), (301, 71), (304, 105), (100027, 51), (100028, 50), (100145, 23), (100222, 70), (100224, 96), (100225, 97), (100298, 25), (200095, 61), (200232, 62), (300303, 107), (400302, 74), (600303, 107)].lookup m with | some f => f | none => 0
theorem f31_match : matchFn Try.prog rho 24 2 f31_ac [(4, none)] = true := by kernel_rfl
theorem f33_match : matchFn Try.prog rho 23 2 f33_ac [(4, none)] = true := by kernel_rfl
theorem f32_match : matchFn Try.prog rho 132 2 f32_ac [(4, none)] = true := by kernel_rfl
theorem f51_match : matchFn Try.prog rho 212 1 f51_ac [(2, some (true, 9))] = true := by kernel_rfl
theorem f49_match : matchFn Try.prog rho 6 3 f49_ac [(6, none)] = true := by kernel_rfl
theorem f50_match : matchFn Try.prog rho 71 2 f50_ac [(4, none)] = true := by kernel_rfl
theorem f46_match : matchFn Try.prog rho 70 1 f46_ac [(2, none)] = true := by kernel_rfl
theorem f47_match : matchFn Try.prog rho 105 1 f47_ac [(2, none)] = true := by kernel_rfl
theorem f52_match : matchFn Try.prog rho 300 2 f52_ac [(4, none)] = true := by kernel_rfl
theorem f48_match : matchFn Try.prog rho 299 3 f48_ac [(6, some (true, 9)), (7, none)] = true := by kernel_rfl
theorem f34_match : matchFn Try.prog rho 29 1 f34_ac [(2, some (true, 2))] = true := by kernel_rfl
theorem f35_match : matchFn Try.prog rho 28 1 f35_ac [(2, none)] = true := by kernel_rfl
theorem f40_match : matchFn Try.prog rho 30 1 f40_ac [(2, some (true, 2))] = true := by kernel_rfl
theorem f41_match : matchFn Try.prog rho 27 1 f41_ac [(2, none)] = true := by kernel_rfl
theorem f37_match : matchFn Try.prog rho 145 1 f37_ac [(2, some (true, 9))] = true := by kernel_rfl
theorem f39_match : matchFn Try.prog rho 109 1 f39_ac [(2, some (true, 5))] = true := by kernel_rfl
theorem f8_match : matchFn Try.prog rho 222 1 f8_ac [(2, some (true, 9))] = true := by kernel_rfl
theorem f15_match : matchFn Try.prog rho 10 3 f15_ac [(6, none)] = true := by kernel_rfl
theorem f16_match : matchFn Try.prog rho 9 1 f16_ac [(2, none)] = true := by kernel_rfl
theorem f3_match : matchFn Try.prog rho 72 1 f3_ac [(2, none)] = true := by kernel_rfl
theorem f17_match : matchFn Try.prog rho 11 1 f17_ac [(2, none)] = true := by kernel_rfl
theorem f1_match : matchFn Try.prog rho 14 1 f1_ac [(2, none)] = true := by kernel_rfl
theorem f2_match : matchFn Try.prog rho 15 1 f2_ac [(2, none)] = true := by kernel_rfl
theorem f0_match : matchFn Try.prog rho 13 2 f0_ac [(4, none)] = true := by kernel_rfl
theorem f14_match : matchFn Try.prog rho 75 2 f14_ac [(4, none)] = true := by kernel_rfl
theorem f12_match : matchFn Try.prog rho 73 1 f12_ac [(2, none)] = true := by kernel_rfl
theorem f19_match : matchFn Try.prog rho 76 1 f19_ac [(2, none)] = true := by kernel_rfl
theorem f13_match : matchFn Try.prog rho 74 1 f13_ac [(2, none)] = true := by kernel_rfl
theorem f18_match : matchFn Try.prog rho 160 1 f18_ac [(2, none)] = true := by kernel_rfl
theorem f4_match : matchFn Try.prog rho 159 1 f4_ac [(2, none)] = true := by kernel_rfl
theorem f10_match : matchFn Try.prog rho 301 1 f10_ac [(2, none)] = true := by kernel_rfl
theorem f5_match : matchFn Try.prog rho 117 1 f5_ac [(2, none)] = true := by kernel_rfl
theorem f9_match : matchFn Try.prog rho 100222 1 f9_ac [(2, some (true, 9))] = true := by kernel_rfl
theorem f43_match : matchFn Try.prog rho 304 3 f43_ac [(6, none), (7, none)] = true := by kernel_rfl
theorem f11_match : matchFn Try.prog rho 400302 3 f11_ac [(6, none)] = true := by kernel_rfl
theorem f6_match : matchFn Try.prog rho 298 3 f6_ac [(6, some (true, 9)), (7, none)] = true := by kernel_rfl
theorem f21_match : matchFn Try.prog rho 35 2 f21_ac [(4, none)] = true := by kernel_rfl
theorem f22_match : matchFn Try.prog rho 34 2 f22_ac [(4, none)] = true := by kernel_rfl
theorem f24_match : matchFn Try.prog rho 36 2 f24_ac [(4, none)] = true := by kernel_rfl
theorem f25_match : matchFn Try.prog rho 33 2 f25_ac [(4, none)] = true := by kernel_rfl
theorem f23_match : matchFn Try.prog rho 177 2 f23_ac [(4, none)] = true := by kernel_rfl
theorem f26_match : matchFn Try.prog rho 92 2 f26_ac [(4, none)] = true := by kernel_rfl
theorem f28_match : matchFn Try.prog rho 235 2 f28_ac [(4, none)] = true := by kernel_rfl
theorem f27_match : matchFn Try.prog rho 205 2 f27_ac [(4, none)] = true := by kernel_rfl
theorem f36_match : matchFn Try.prog rho 100028 1 f36_ac [(2, none)] = true := by kernel_rfl
theorem f42_match : matchFn Try.prog rho 100027 1 f42_ac [(2, none)] = true := by kernel_rfl
theorem f38_match : matchFn Try.prog rho 100145 1 f38_ac [(2, some (true, 9))] = true := by kernel_rfl
theorem f7_match : matchFn Try.prog rho 100298 3 f7_ac [(6, some (true, 9)), (7, none)] = true := by kernel_rfl
theorem f29_match : matchFn Try.prog rho 200095 2 f29_ac [(4, none)] = true := by kernel_rfl
theorem f30_match : matchFn Try.prog rho 200232 2 f30_ac [(4, none)] = true := by kernel_rfl
theorem f20_match : matchFn Try.prog rho 297 3 f20_ac [(6, none)] = true := by kernel_rfl
def tbl : List (Nat × Fn) := [(24, ⟨2, f31_ac, [(4, none)]⟩),
  (23, ⟨2, f33_ac, [(4, none)]⟩),
  (132, ⟨2, f32_ac, [(4, none)]⟩),
  (212, ⟨1, f51_ac, [(2, some (true, 9))]⟩),
  (6, ⟨3, f49_ac, [(6, none)]⟩),
  (71, ⟨2, f50_ac, [(4, none)]⟩),
  (70, ⟨1, f46_ac, [(2, none)]⟩),
  (105, ⟨1, f47_ac, [(2, none)]⟩),
  (300, ⟨2, f52_ac, [(4, none)]⟩),
  (299, ⟨3, f48_ac, [(6, some (true, 9)), (7, none)]⟩),
  (29, ⟨1, f34_ac, [(2, some (true, 2))]⟩),
  (28, ⟨1, f35_ac, [(2, none)]⟩),
  (30, ⟨1, f40_ac, [(2, some (true, 2))]⟩),
  (27, ⟨1, f41_ac, [(2, none)]⟩),
  (145, ⟨1, f37_ac, [(2, some (true, 9))]⟩),
  (109, ⟨1, f39_ac, [(2, some (true, 5))]⟩),
  (222, ⟨1, f8_ac, [(2, some (true, 9))]⟩),
  (10, ⟨3, f15_ac, [(6, none)]⟩),
  (9, ⟨1, f16_ac, [(2, none)]⟩),
  (72, ⟨1, f3_ac, [(2, none)]⟩),
  (11, ⟨1, f17_ac, [(2, none)]⟩),
  (14, ⟨1, f1_ac, [(2, none)]⟩),
  (15, ⟨1, f2_ac, [(2, none)]⟩),
  (13, ⟨2, f0_ac, [(4, none)]⟩),
  (75, ⟨2, f14_ac, [(4, none)]⟩),
  (73, ⟨1, f12_ac, [(2, none)]⟩),
  (76, ⟨1, f19_ac, [(2, none)]⟩),
  (74, ⟨1, f13_ac, [(2, none)]⟩),
  (160, ⟨1, f18_ac, [(2, none)]⟩),
  (159, ⟨1, f4_ac, [(2, none)]⟩),
  (301, ⟨1, f10_ac, [(2, none)]⟩),
  (117, ⟨1, f5_ac, [(2, none)]⟩),
  (100222, ⟨1, f9_ac, [(2, some (true, 9))]⟩),
  (304, ⟨3, f43_ac, [(6, none), (7, none)]⟩),
  (400302, ⟨3, f11_ac, [(6, none)]⟩),
  (298, ⟨3, f6_ac, [(6, some (true, 9)), (7, none)]⟩),
  (35, ⟨2, f21_ac, [(4, none)]⟩),
  (34, ⟨2, f22_ac, [(4, none)]⟩),
  (36, ⟨2, f24_ac, [(4, none)]⟩),
  (33, ⟨2, f25_ac, [(4, none)]⟩),
  (177, ⟨2, f23_ac, [(4, none)]⟩),
  (92, ⟨2, f26_ac, [(4, none)]⟩),
  (235, ⟨2, f28_ac, [(4, none)]⟩),
  (205, ⟨2, f27_ac, [(4, none)]⟩),
  (100028, ⟨1, f36_ac, [(2, none)]⟩),
  (100027, ⟨1, f42_ac, [(2, none)]⟩),
  (100145, ⟨1, f38_ac, [(2, some (true, 9))]⟩),
  (100298, ⟨3, f7_ac, [(6, some (true, 9)), (7, none)]⟩),
  (200095, ⟨2, f29_ac, [(4, none)]⟩),
  (200232, ⟨2, f30_ac, [(4, none)]⟩),
  (297, ⟨3, f20_ac, [(6, none)]⟩)]
theorem tbl_all : AllMatch Try.prog rho tbl := ⟨f31_match, f33_match, f32_match, f51_match, f49_match, f50_match, f46_match, f47_match, f52_match, f48_match, f34_match, f35_match, f40_match, f41_match, f37_match, f39_match, f8_match, f15_match, f16_match, f3_match, f17_match, f1_match, f2_match, f0_match, f14_match, f12_match, f19_match, f13_match, f18_match, f4_match, f10_match, f5_match, f9_match, f43_match, f11_match, f6_match, f21_match, f22_match, f24_match, f25_match, f23_match, f26_match, f28_match, f27_match, f36_match, f42_match, f38_match, f7_match, f29_match, f30_match, f20_match, trivial⟩
theorem f44_mV : matchFn Try.prog rho 224 1 f44_ac [(2, none)] = true := by kernel_rfl
theorem f44_mF : matchFn Try.prog rho (100000 + 224) 1 f44_ac [(2, none)] = true := by kernel_rfl
theorem f45_mV : matchFn Try.prog rho 225 1 f45_ac [(2, none)] = true := by kernel_rfl
theorem f45_mF : matchFn Try.prog rho (100000 + 225) 1 f45_ac [(2, none)] = true := by kernel_rfl
def ctbl : List (Nat × Nat × Nat × AC) := [(224, 2, 16, f44_ac), (225, 2, 16, f45_ac)]
theorem ctbl_all : CloneAll Try.prog rho ctbl := ⟨by decide, f44_mV, f44_mF, f44_ok, by decide, f45_mV, f45_mF, f45_ok, trivial⟩
noncomputable def slices_Insert_g303_ren : Shelf.Ren := ⟨fun x => if x = 21 then 107 else if x = 27 then 122 else 123, fun x => if x = 22 then 39 else if x = 23 then 99 else if x = 3 then 3 else if x = 4 then 4 else 0, fun x => x⟩
noncomputable def slices_Insert_g303_zero : Value := ((Try.prog.info? 99).bind fun i => i.zero).getD Go.undef
theorem slices_Insert_g303_insP : InsP Try.prog slices_Insert_g303_ren 2 16 slices_Insert_g303_zero where
  mixed := by kernel_rfl
  f21 := ⟨Try.f107.name, Try.f107.targs, by kernel_rfl⟩
  f27 := ⟨Try.f122, by kernel_rfl, by kernel_rfl, by kernel_rfl, by kernel_rfl, by kernel_rfl⟩
  t3 := by kernel_rfl
  a3 := Try.isAgg3
  z3 := Try.sizeOf3
  t4 := by kernel_rfl
  t22 := by kernel_rfl
  a22 := Try.isAgg39
  z22 := Try.sizeOf39
  z23 := Try.sizeOf99
  i23 := by kernel_rfl
def itbl : List (Nat × Nat × Nat) := [(303, 2, 16)]
theorem itbl_all : InsAll Try.prog rho itbl := ⟨⟨_, _, slices_Insert_g303_insP, by decide, by decide, by kernel_rfl, by kernel_rfl, by kernel_rfl, by kernel_rfl⟩, trivial⟩
noncomputable abbrev Ev : Env := EnvW (insE itbl (cloneE ctbl)) (look tbl)
theorem good : Good Try.prog rho Ev := good_W (tbl_ok tbl_all) (by kernel_rfl) (good_ins itbl_all (good_clone (by kernel_rfl) ctbl_all))
theorem g_f44 : IsClone Ev 224 2 16 := isClone_I (by decide) rfl rfl rfl
theorem g_f45 : IsClone Ev 225 2 16 := isClone_I (by decide) rfl rfl rfl
theorem g_slices_Insert_g303 : IsIns Ev 303 2 16 := isIns_W (by decide) rfl rfl rfl
theorem g_f31 : G_f31 Ev := { is := is_W rfl }
theorem g_f33 : G_f33 Ev := { is := is_W rfl }
theorem g_f32 : G_f32 Ev := { is := is_W rfl, c_f31 := g_f31, c_f33 := g_f33 }
theorem g_f51 : G_f51 Ev := { is := is_W rfl }
theorem g_f49 : G_f49 Ev := { is := is_W rfl }
theorem g_f50 : G_f50 Ev := { is := is_W rfl }
theorem g_f46 : G_f46 Ev := { is := is_W rfl, c_f49 := g_f49, c_f50 := g_f50 }
theorem g_f47 : G_f47 Ev := { is := is_W rfl, c_f49 := g_f49 }
theorem g_f52 : G_f52 Ev := { is := is_W rfl, c_f50 := g_f50 }
theorem g_f48 : G_f48 Ev := { is := is_W rfl, c_f51 := g_f51, c_f46 := g_f46, c_f49 := g_f49, c_f47 := g_f47, c_f52 := g_f52 }
theorem g_f34 : G_f34 Ev := { is := is_W rfl }
theorem g_f35 : G_f35 Ev := { is := is_W rfl, c_f34 := g_f34 }
theorem g_f40 : G_f40 Ev := { is := is_W rfl }
theorem g_f41 : G_f41 Ev := { is := is_W rfl, c_f40 := g_f40 }
theorem g_f37 : G_f37 Ev := { is := is_W rfl, c_f35 := g_f35, c_f41 := g_f41 }
theorem g_f39 : G_f39 Ev := { is := is_W rfl }
theorem g_f8 : G_f8 Ev := { is := is_W rfl, c_f44 := g_f44, c_f45 := g_f45 }
theorem g_f15 : G_f15 Ev := { is := is_W rfl }
theorem g_f16 : G_f16 Ev := { is := is_W rfl, c_f15 := g_f15 }
theorem g_f3 : G_f3 Ev := { is := is_W rfl, c_f15 := g_f15 }
theorem g_f17 : G_f17 Ev := { is := is_W rfl, c_f15 := g_f15 }
theorem g_f1 : G_f1 Ev := { is := is_W rfl }
theorem g_f2 : G_f2 Ev := { is := is_W rfl }
theorem g_f0 : G_f0 Ev := { is := is_W rfl, c_f2 := g_f2 }
theorem g_f14 : G_f14 Ev := { is := is_W rfl, c_f1 := g_f1, c_f0 := g_f0 }
theorem g_f12 : G_f12 Ev := { is := is_W rfl, c_f17 := g_f17, c_f15 := g_f15, c_f14 := g_f14 }
theorem g_f19 : G_f19 Ev := { is := is_W rfl, c_f15 := g_f15 }
theorem g_f13 : G_f13 Ev := { is := is_W rfl, c_f17 := g_f17, c_f19 := g_f19 }
theorem g_f18 : G_f18 Ev := { is := is_W rfl, c_f15 := g_f15 }
theorem g_f4 : G_f4 Ev := { is := is_W rfl, c_f15 := g_f15, c_f16 := g_f16, c_f3 := g_f3, c_f12 := g_f12, c_f13 := g_f13, c_f18 := g_f18 }
theorem g_f10 : G_f10 Ev := { is := is_W rfl, c_f4 := g_f4 }
theorem g_f5 : G_f5 Ev := { is := is_W rfl, c_f15 := g_f15, c_f19 := g_f19, c_f16 := g_f16 }
theorem g_f9 : G_f9 Ev := { is := is_W rfl, c_f44 := g_f44, c_f45 := g_f45 }
theorem g_f43 : G_f43 Ev := { is := is_W rfl }
theorem g_f11 : G_f11 Ev := { is := is_W rfl, c_f43 := g_f43, c_f14 := g_f14, c_f44 := g_f44, c_slices_Insert_g303 := g_slices_Insert_g303 }
theorem g_f6 : G_f6 Ev := { is := is_W rfl, c_f8 := g_f8, c_f10 := g_f10, c_f17 := g_f17, c_f5 := g_f5, c_f9 := g_f9, c_f11 := g_f11 }
theorem g_f21 : G_f21 Ev := { is := is_W rfl }
theorem g_f22 : G_f22 Ev := { is := is_W rfl, c_f21 := g_f21 }
theorem g_f24 : G_f24 Ev := { is := is_W rfl }
theorem g_f25 : G_f25 Ev := { is := is_W rfl, c_f24 := g_f24 }
theorem g_f23 : G_f23 Ev := { is := is_W rfl, c_f22 := g_f22, c_f25 := g_f25 }
theorem g_f26 : G_f26 Ev := { is := is_W rfl }
theorem g_f28 : G_f28 Ev := { is := is_W rfl }
theorem g_f27 : G_f27 Ev := { is := is_W rfl, c_f26 := g_f26, c_f28 := g_f28 }
theorem g_f36 : G_f36 Ev := { is := is_W rfl, c_f34 := g_f34 }
theorem g_f42 : G_f42 Ev := { is := is_W rfl, c_f40 := g_f40 }
theorem g_f38 : G_f38 Ev := { is := is_W rfl, c_f36 := g_f36, c_f42 := g_f42 }
theorem g_f7 : G_f7 Ev := { is := is_W rfl, c_f10 := g_f10, c_f17 := g_f17, c_f5 := g_f5, c_f9 := g_f9, c_f11 := g_f11 }
theorem g_f29 : G_f29 Ev := { is := is_W rfl }
theorem g_f30 : G_f30 Ev := { is := is_W rfl }
theorem g_f20 : G_f20 Ev := { is := is_W rfl, c_f32 := g_f32, c_f48 := g_f48, c_f37 := g_f37, c_f39 := g_f39, c_f6 := g_f6, c_f23 := g_f23, c_f27 := g_f27, c_f38 := g_f38, c_f7 := g_f7, c_f29 := g_f29, c_f30 := g_f30 }
end Go.Proofs.Ytlgblpngiamhaaa.Am.FnExactTrackRead
