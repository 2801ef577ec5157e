import Derived.Test.YtlgblpngiamhaaaGreatChecked
import Derived.KernelRfl
import Derived.Shelf.SlGeneric
import Derived.Ground.SlsfProg
import Derived.Test.YtlgblpngiamhaaaGreatAmW
import Derived.Test.YtlgblpngiamhaaaGreatFindAnomalyF0
import Derived.Test.YtlgblpngiamhaaaGreatFindAnomalyF1
import Derived.Test.YtlgblpngiamhaaaGreatFindAnomalyP0
namespace Go.Proofs.YtlgblpngiamhaaaGreat.Am.FnExactFindAnomaly
open Go Go.Proofs
set_option linter.unusedVariables false
set_option maxRecDepth 100000
def rho (m : Nat) : FuncId := match [(3, 71), (4, 124), (6, 95), (7, 126), (9, 129), (10, 107), (11, 130), (12, 131), (13, 46), (14, 166), (15, 118), (23, 58), (24, 57), (27, 70), (28, 69), (29, 127), (30, 128), (33, 89), (34, 88), (35, 146), (36, 147), (39, 59), (40, 60), (41, 72), (42, 82), (43, 142), (45, 7), (46, 10), (47, 136), (48, 65), (49, 5), (50, 21), (51, 25), (52, 85), (53, 144), (54, 83), (55, 143), (56, 29), (59, 9), (60, 76), (61, 66), (62, 61), (63, 73), (64, 132), (65, 86), (66, 145), (70, 97), (71, 150), (72, 167), (73, 168), (74, 169), (75, 184), (76, 185), (80, 22), (81, 26), (90, 13), (241, 67), (243, 62), (244, 64), (245, 125), (247, 74), (249, 134), (250, 133), (251, 78), (252, 140), (253, 139), (353, 23), (356, 63), (357, 75), (363, 135), (408, 27), (438, 28), (439, 24), (440, 68), (441, 87), (442, 84), (443, 81), (444, 80), (445, 79), (446, 77), (447, 141), (448, 3), (449, 8), (450, 6), (100027, 70), (100028, 69), (100045, 7), (100051, 25), (100081, 26), (100449, 8), (200086, 12), (200095, 30), (200232, 31), (200287, 11), (200362, 137), (300361, 138), (500363, 135)].lookup m with | some f => f | none => 0
theorem Qv1 : matchFn Tryz.prog rho 24 2 f54_ac [(4, none)] = true := by kernel_rfl
theorem Qv3 : matchFn Tryz.prog rho 23 2 f55_ac [(4, none)] = true := by kernel_rfl
theorem Qvx : matchFn Tryz.prog rho 50 2 f52_ac [(4, none)] = true := by kernel_rfl
theorem Qvz : matchFn Tryz.prog rho 49 2 f53_ac [(4, none)] = true := by kernel_rfl
theorem Qxx : matchFn Tryz.prog rho 40 2 f94_ac [(4, none)] = true := by kernel_rfl
theorem Qxw : matchFn Tryz.prog rho 6 3 f93_ac [(6, none)] = true := by kernel_rfl
theorem Qxq : matchFn Tryz.prog rho 7 2 f91_ac [(4, none)] = true := by kernel_rfl
theorem Qw5 : matchFn Tryz.prog rho 4 1 f77_ac [(2, none)] = true := by kernel_rfl
theorem Qxb : matchFn Tryz.prog rho 39 3 f81_ac [(6, none)] = true := by kernel_rfl
theorem Qxf : matchFn Tryz.prog rho 62 3 f84_ac [(6, none)] = true := by kernel_rfl
theorem Qxl : matchFn Tryz.prog rho 80 1 f88_ac [(2, none)] = true := by kernel_rfl
theorem Qxm : matchFn Tryz.prog rho 244 2 f89_ac [(4, none)] = true := by kernel_rfl
theorem Qxe : matchFn Tryz.prog rho 241 2 f83_ac [(4, none)] = true := by kernel_rfl
theorem Qx0 : matchFn Tryz.prog rho 71 2 f96_ac [(4, none)] = true := by kernel_rfl
theorem Qxi : matchFn Tryz.prog rho 70 1 f86_ac [(2, none)] = true := by kernel_rfl
theorem Qxp : matchFn Tryz.prog rho 245 1 f90_ac [(2, some (true, 9))] = true := by kernel_rfl
theorem Qxg : matchFn Tryz.prog rho 243 1 f85_ac [(2, none)] = true := by kernel_rfl
theorem Qxu : matchFn Tryz.prog rho 356 2 f92_ac [(4, none)] = true := by kernel_rfl
theorem Qxj : matchFn Tryz.prog rho 48 3 f87_ac [(6, none)] = true := by kernel_rfl
theorem Qw6 : matchFn Tryz.prog rho 353 1 f78_ac [(2, none)] = true := by kernel_rfl
theorem Qw8 : matchFn Tryz.prog rho 61 2 f79_ac [(4, none)] = true := by kernel_rfl
theorem Qxy : matchFn Tryz.prog rho 440 3 f95_ac [(6, none)] = true := by kernel_rfl
theorem Qxa : matchFn Tryz.prog rho 439 2 f80_ac [(4, none)] = true := by kernel_rfl
theorem Qxd : matchFn Tryz.prog rho 450 1 f82_ac [(2, none), (3, none)] = true := by kernel_rfl
theorem Qwe : matchFn Tryz.prog rho 29 1 f61_ac [(2, some (true, 2))] = true := by kernel_rfl
theorem Qwg : matchFn Tryz.prog rho 28 1 f62_ac [(2, none)] = true := by kernel_rfl
theorem Qwj : matchFn Tryz.prog rho 30 1 f64_ac [(2, some (true, 2))] = true := by kernel_rfl
theorem Qwl : matchFn Tryz.prog rho 27 1 f65_ac [(2, none)] = true := by kernel_rfl
theorem Qv5 : matchFn Tryz.prog rho 51 1 f56_ac [(2, some (true, 4))] = true := by kernel_rfl
theorem Qv7 : matchFn Tryz.prog rho 45 1 f57_ac [(2, none)] = true := by kernel_rfl
theorem Qu7 : matchFn Tryz.prog rho 10 3 f33_ac [(6, none)] = true := by kernel_rfl
theorem Qva : matchFn Tryz.prog rho 9 1 f35_ac [(2, none)] = true := by kernel_rfl
theorem Qvb : matchFn Tryz.prog rho 11 1 f36_ac [(2, none)] = true := by kernel_rfl
theorem Qu1 : matchFn Tryz.prog rho 15 1 f2_ac [(2, none)] = true := by kernel_rfl
theorem Qt4 : matchFn Tryz.prog rho 13 2 f0_ac [(4, none)] = true := by kernel_rfl
theorem Quj : matchFn Tryz.prog rho 14 1 f1_ac [(2, none)] = true := by kernel_rfl
theorem Quy : matchFn Tryz.prog rho 12 2 f28_ac [(4, none)] = true := by kernel_rfl
theorem Qvf : matchFn Tryz.prog rho 3 1 f3_ac [(2, none)] = true := by kernel_rfl
theorem Qw4 : matchFn Tryz.prog rho 43 2 f76_ac [(4, none)] = true := by kernel_rfl
theorem Qwu : matchFn Tryz.prog rho 42 2 f71_ac [(4, none)] = true := by kernel_rfl
theorem Qu3 : matchFn Tryz.prog rho 41 2 f30_ac [(4, some (true, 10))] = true := by kernel_rfl
theorem Qw2 : matchFn Tryz.prog rho 66 2 f75_ac [(4, none)] = true := by kernel_rfl
theorem Qwt : matchFn Tryz.prog rho 65 2 f70_ac [(4, none)] = true := by kernel_rfl
theorem Qui : matchFn Tryz.prog rho 64 3 f19_ac [(4, none)] = true := by kernel_rfl
theorem Qug : matchFn Tryz.prog rho 63 3 f18_ac [(6, none)] = true := by kernel_rfl
theorem Quo : matchFn Tryz.prog rho 81 1 f23_ac [(2, none)] = true := by kernel_rfl
theorem Qww : matchFn Tryz.prog rho 253 2 f72_ac [(4, none)] = true := by kernel_rfl
theorem Quf : matchFn Tryz.prog rho 252 2 f17_ac [(3, none)] = true := by kernel_rfl
theorem Qud : matchFn Tryz.prog rho 251 2 f16_ac [(4, none)] = true := by kernel_rfl
theorem Qul : matchFn Tryz.prog rho 72 1 f21_ac [(2, none)] = true := by kernel_rfl
theorem Qu0 : matchFn Tryz.prog rho 75 2 f29_ac [(4, none)] = true := by kernel_rfl
theorem Quv : matchFn Tryz.prog rho 73 1 f26_ac [(2, none)] = true := by kernel_rfl
theorem Qvc : matchFn Tryz.prog rho 76 1 f37_ac [(2, none)] = true := by kernel_rfl
theorem Qux : matchFn Tryz.prog rho 74 1 f27_ac [(2, none)] = true := by kernel_rfl
theorem Qu9 : matchFn Tryz.prog rho 250 1 f34_ac [(2, none)] = true := by kernel_rfl
theorem Qw0 : matchFn Tryz.prog rho 55 2 f74_ac [(4, none)] = true := by kernel_rfl
theorem Qwr : matchFn Tryz.prog rho 54 2 f69_ac [(4, none)] = true := by kernel_rfl
theorem Qt8 : matchFn Tryz.prog rho 53 2 f13_ac [(3, none)] = true := by kernel_rfl
theorem Qt7 : matchFn Tryz.prog rho 52 2 f12_ac [(4, none)] = true := by kernel_rfl
theorem Qut : matchFn Tryz.prog rho 249 2 f25_ac [(4, none)] = true := by kernel_rfl
theorem Quk : matchFn Tryz.prog rho 247 1 f20_ac [(2, none)] = true := by kernel_rfl
theorem Qum : matchFn Tryz.prog rho 47 3 f22_ac [(6, none)] = true := by kernel_rfl
theorem Qwo : matchFn Tryz.prog rho 300361 1 f67_ac [(2, none)] = true := by kernel_rfl
theorem Qu6 : matchFn Tryz.prog rho 500363 5 f32_ac [] = true := by kernel_rfl
theorem Qu5 : matchFn Tryz.prog rho 357 1 f31_ac [(2, none)] = true := by kernel_rfl
theorem Qvs : matchFn Tryz.prog rho 408 1 f4_ac [(2, none)] = true := by kernel_rfl
theorem Qwc : matchFn Tryz.prog rho 60 2 f5_ac [(4, none)] = true := by kernel_rfl
theorem Qw9 : matchFn Tryz.prog rho 446 2 f7_ac [(3, some (true, 4))] = true := by kernel_rfl
theorem Qwy : matchFn Tryz.prog rho 447 2 f73_ac [(4, none)] = true := by kernel_rfl
theorem Qwq : matchFn Tryz.prog rho 445 2 f68_ac [(4, none)] = true := by kernel_rfl
theorem Qxn : matchFn Tryz.prog rho 444 2 f8_ac [(3, none)] = true := by kernel_rfl
theorem Qx1 : matchFn Tryz.prog rho 443 2 f9_ac [(3, none)] = true := by kernel_rfl
theorem Qt5 : matchFn Tryz.prog rho 442 2 f10_ac [(3, none)] = true := by kernel_rfl
theorem Qt6 : matchFn Tryz.prog rho 441 2 f11_ac [(3, none)] = true := by kernel_rfl
theorem Qws : matchFn Tryz.prog rho 438 2 f6_ac [(4, none)] = true := by kernel_rfl
theorem Qua : matchFn Tryz.prog rho 449 1 f14_ac [(2, none), (3, none)] = true := by kernel_rfl
theorem Qvi : matchFn Tryz.prog rho 59 2 f41_ac [(4, none)] = true := by kernel_rfl
theorem Qvj : matchFn Tryz.prog rho 35 2 f42_ac [(4, none)] = true := by kernel_rfl
theorem Qvk : matchFn Tryz.prog rho 34 2 f43_ac [(4, none)] = true := by kernel_rfl
theorem Qvl : matchFn Tryz.prog rho 36 2 f44_ac [(4, none)] = true := by kernel_rfl
theorem Qvm : matchFn Tryz.prog rho 33 2 f45_ac [(4, none)] = true := by kernel_rfl
theorem Qve : matchFn Tryz.prog rho 56 2 f39_ac [(4, none)] = true := by kernel_rfl
theorem Qvh : matchFn Tryz.prog rho 46 2 f40_ac [(4, none)] = true := by kernel_rfl
theorem Qvo : matchFn Tryz.prog rho 90 2 f46_ac [(4, none)] = true := by kernel_rfl
theorem Qwi : matchFn Tryz.prog rho 100028 1 f63_ac [(2, none)] = true := by kernel_rfl
theorem Qwn : matchFn Tryz.prog rho 100027 1 f66_ac [(2, none)] = true := by kernel_rfl
theorem Qwb : matchFn Tryz.prog rho 100051 1 f59_ac [(2, some (true, 4))] = true := by kernel_rfl
theorem Qv9 : matchFn Tryz.prog rho 100045 1 f58_ac [(2, none)] = true := by kernel_rfl
theorem Qur : matchFn Tryz.prog rho 100081 1 f24_ac [(2, none)] = true := by kernel_rfl
theorem Quc : matchFn Tryz.prog rho 100449 1 f15_ac [(2, none), (3, none)] = true := by kernel_rfl
theorem Qvu : matchFn Tryz.prog rho 200095 2 f50_ac [(4, none)] = true := by kernel_rfl
theorem Qvw : matchFn Tryz.prog rho 200232 2 f51_ac [(4, none)] = true := by kernel_rfl
theorem Qvp : matchFn Tryz.prog rho 200287 2 f48_ac [(4, none)] = true := by kernel_rfl
theorem Qvr : matchFn Tryz.prog rho 200086 2 f49_ac [(4, none)] = true := by kernel_rfl
theorem Qvd : matchFn Tryz.prog rho 448 1 f38_ac [(2, none)] = true := by kernel_rfl
def tbl : List (Nat × Fn) := [(24, ⟨2, f54_ac, [(4, none)]⟩),
 (23, ⟨2, f55_ac, [(4, none)]⟩),
 (50, ⟨2, f52_ac, [(4, none)]⟩),
 (49, ⟨2, f53_ac, [(4, none)]⟩),
 (40, ⟨2, f94_ac, [(4, none)]⟩),
 (6, ⟨3, f93_ac, [(6, none)]⟩),
 (7, ⟨2, f91_ac, [(4, none)]⟩),
 (4, ⟨1, f77_ac, [(2, none)]⟩),
 (39, ⟨3, f81_ac, [(6, none)]⟩),
 (62, ⟨3, f84_ac, [(6, none)]⟩),
 (80, ⟨1, f88_ac, [(2, none)]⟩),
 (244, ⟨2, f89_ac, [(4, none)]⟩),
 (241, ⟨2, f83_ac, [(4, none)]⟩),
 (71, ⟨2, f96_ac, [(4, none)]⟩),
 (70, ⟨1, f86_ac, [(2, none)]⟩),
 (245, ⟨1, f90_ac, [(2, some (true, 9))]⟩),
 (243, ⟨1, f85_ac, [(2, none)]⟩),
 (356, ⟨2, f92_ac, [(4, none)]⟩),
 (48, ⟨3, f87_ac, [(6, none)]⟩),
 (353, ⟨1, f78_ac, [(2, none)]⟩),
 (61, ⟨2, f79_ac, [(4, none)]⟩),
 (440, ⟨3, f95_ac, [(6, none)]⟩),
 (439, ⟨2, f80_ac, [(4, none)]⟩),
 (450, ⟨1, f82_ac, [(2, none), (3, none)]⟩),
 (29, ⟨1, f61_ac, [(2, some (true, 2))]⟩),
 (28, ⟨1, f62_ac, [(2, none)]⟩),
 (30, ⟨1, f64_ac, [(2, some (true, 2))]⟩),
 (27, ⟨1, f65_ac, [(2, none)]⟩),
 (51, ⟨1, f56_ac, [(2, some (true, 4))]⟩),
 (45, ⟨1, f57_ac, [(2, none)]⟩),
 (10, ⟨3, f33_ac, [(6, none)]⟩),
 (9, ⟨1, f35_ac, [(2, none)]⟩),
 (11, ⟨1, f36_ac, [(2, none)]⟩),
 (15, ⟨1, f2_ac, [(2, none)]⟩),
 (13, ⟨2, f0_ac, [(4, none)]⟩),
 (14, ⟨1, f1_ac, [(2, none)]⟩),
 (12, ⟨2, f28_ac, [(4, none)]⟩),
 (3, ⟨1, f3_ac, [(2, none)]⟩),
 (43, ⟨2, f76_ac, [(4, none)]⟩),
 (42, ⟨2, f71_ac, [(4, none)]⟩),
 (41, ⟨2, f30_ac, [(4, some (true, 10))]⟩),
 (66, ⟨2, f75_ac, [(4, none)]⟩),
 (65, ⟨2, f70_ac, [(4, none)]⟩),
 (64, ⟨3, f19_ac, [(4, none)]⟩),
 (63, ⟨3, f18_ac, [(6, none)]⟩),
 (81, ⟨1, f23_ac, [(2, none)]⟩),
 (253, ⟨2, f72_ac, [(4, none)]⟩),
 (252, ⟨2, f17_ac, [(3, none)]⟩),
 (251, ⟨2, f16_ac, [(4, none)]⟩),
 (72, ⟨1, f21_ac, [(2, none)]⟩),
 (75, ⟨2, f29_ac, [(4, none)]⟩),
 (73, ⟨1, f26_ac, [(2, none)]⟩),
 (76, ⟨1, f37_ac, [(2, none)]⟩),
 (74, ⟨1, f27_ac, [(2, none)]⟩),
 (250, ⟨1, f34_ac, [(2, none)]⟩),
 (55, ⟨2, f74_ac, [(4, none)]⟩),
 (54, ⟨2, f69_ac, [(4, none)]⟩),
 (53, ⟨2, f13_ac, [(3, none)]⟩),
 (52, ⟨2, f12_ac, [(4, none)]⟩),
 (249, ⟨2, f25_ac, [(4, none)]⟩),
 (247, ⟨1, f20_ac, [(2, none)]⟩),
 (47, ⟨3, f22_ac, [(6, none)]⟩),
 (300361, ⟨1, f67_ac, [(2, none)]⟩),
 (500363, ⟨5, f32_ac, []⟩),
 (357, ⟨1, f31_ac, [(2, none)]⟩),
 (408, ⟨1, f4_ac, [(2, none)]⟩),
 (60, ⟨2, f5_ac, [(4, none)]⟩),
 (446, ⟨2, f7_ac, [(3, some (true, 4))]⟩),
 (447, ⟨2, f73_ac, [(4, none)]⟩),
 (445, ⟨2, f68_ac, [(4, none)]⟩),
 (444, ⟨2, f8_ac, [(3, none)]⟩),
 (443, ⟨2, f9_ac, [(3, none)]⟩),
 (442, ⟨2, f10_ac, [(3, none)]⟩),
 (441, ⟨2, f11_ac, [(3, none)]⟩),
 (438, ⟨2, f6_ac, [(4, none)]⟩),
 (449, ⟨1, f14_ac, [(2, none), (3, none)]⟩),
 (59, ⟨2, f41_ac, [(4, none)]⟩),
 (35, ⟨2, f42_ac, [(4, none)]⟩),
 (34, ⟨2, f43_ac, [(4, none)]⟩),
 (36, ⟨2, f44_ac, [(4, none)]⟩),
 (33, ⟨2, f45_ac, [(4, none)]⟩),
 (56, ⟨2, f39_ac, [(4, none)]⟩),
 (46, ⟨2, f40_ac, [(4, none)]⟩),
 (90, ⟨2, f46_ac, [(4, none)]⟩),
 (100028, ⟨1, f63_ac, [(2, none)]⟩),
 (100027, ⟨1, f66_ac, [(2, none)]⟩),
 (100051, ⟨1, f59_ac, [(2, some (true, 4))]⟩),
 (100045, ⟨1, f58_ac, [(2, none)]⟩),
 (100081, ⟨1, f24_ac, [(2, none)]⟩),
 (100449, ⟨1, f15_ac, [(2, none), (3, none)]⟩),
 (200095, ⟨2, f50_ac, [(4, none)]⟩),
 (200232, ⟨2, f51_ac, [(4, none)]⟩),
 (200287, ⟨2, f48_ac, [(4, none)]⟩),
 (200086, ⟨2, f49_ac, [(4, none)]⟩),
 (448, ⟨1, f38_ac, [(2, none)]⟩)]
theorem Qsf : AllMatch Tryz.prog rho tbl := ⟨Qv1, Qv3, Qvx, Qvz, Qxx, Qxw, Qxq, Qw5, Qxb, Qxf, Qxl, Qxm, Qxe, Qx0, Qxi, Qxp, Qxg, Qxu, Qxj, Qw6, Qw8, Qxy, Qxa, Qxd, Qwe, Qwg, Qwj, Qwl, Qv5, Qv7, Qu7, Qva, Qvb, Qu1, Qt4, Quj, Quy, Qvf, Qw4, Qwu, Qu3, Qw2, Qwt, Qui, Qug, Quo, Qww, Quf, Qud, Qul, Qu0, Quv, Qvc, Qux, Qu9, Qw0, Qwr, Qt8, Qt7, Qut, Quk, Qum, Qwo, Qu6, Qu5, Qvs, Qwc, Qw9, Qwy, Qwq, Qxn, Qx1, Qt5, Qt6, Qws, Qua, Qvi, Qvj, Qvk, Qvl, Qvm, Qve, Qvh, Qvo, Qwi, Qwn, Qwb, Qv9, Qur, Quc, Qvu, Qvw, Qvp, Qvr, Qvd, trivial⟩
noncomputable abbrev E1 : Env := EnvW noEnv (look tbl)
theorem good1 : Good Tryz.prog rho E1 := Qoy (Qja Qsf) (by kernel_rfl) Qoz
theorem g1_f2 : G_f2 E1 := { is := is_W rfl }
theorem g1_f0 : G_f0 E1 := { is := is_W rfl, c_f2 := g1_f2 }
theorem g1_f1 : G_f1 E1 := { is := is_W rfl }
theorem Qyh : G_f28 E1 := { is := is_W rfl, c_f0 := g1_f0, c_f1 := g1_f1 }
shelf_lay_g SlLaysF0.n6 Slsf 6 at Tryz 137 as Tryz.sortEdge
noncomputable abbrev Ev : Env := EnvW (sortE (200000 + 362) 12 edgeCmp noEnv) (look tbl)
theorem good : Good Tryz.prog rho Ev := Qoy (Qja Qsf) (by kernel_rfl) (Qyn Tryz.sortEdge Tryz.isAgg108 Tryz.sizeOf108 good1 Qoz (by decide) (by decide) rfl (by kernel_rfl) (fun a b => Qe0 Qyh a b) Qer Qtl)
theorem g_f54 : G_f54 Ev := { is := is_W rfl }
theorem g_f55 : G_f55 Ev := { is := is_W rfl }
theorem g_f52 : G_f52 Ev := { is := is_W rfl, c_f54 := g_f54, c_f55 := g_f55 }
theorem g_f53 : G_f53 Ev := { is := is_W rfl, c_f52 := g_f52 }
theorem g_f94 : G_f94 Ev := { is := is_W rfl }
theorem g_f93 : G_f93 Ev := { is := is_W rfl }
theorem g_f91 : G_f91 Ev := { is := is_W rfl }
theorem g_f77 : G_f77 Ev := { is := is_W rfl, c_f93 := g_f93, c_f91 := g_f91 }
theorem g_f81 : G_f81 Ev := { is := is_W rfl, c_f94 := g_f94, c_f93 := g_f93, c_f77 := g_f77 }
theorem g_f84 : G_f84 Ev := { is := is_W rfl }
theorem g_f88 : G_f88 Ev := { is := is_W rfl, c_f81 := g_f81, c_f94 := g_f94, c_f84 := g_f84 }
theorem g_f89 : G_f89 Ev := { is := is_W rfl }
theorem g_f83 : G_f83 Ev := { is := is_W rfl }
theorem g_f96 : G_f96 Ev := { is := is_W rfl }
theorem g_f86 : G_f86 Ev := { is := is_W rfl, c_f93 := g_f93, c_f96 := g_f96 }
theorem g_f90 : G_f90 Ev := { is := is_W rfl }
theorem g_f85 : G_f85 Ev := { is := is_W rfl, c_f89 := g_f89, c_f83 := g_f83, c_f86 := g_f86, c_f90 := g_f90 }
theorem g_f92 : G_f92 Ev := { is := is_W rfl, c_f91 := g_f91 }
theorem g_f87 : G_f87 Ev := { is := is_W rfl }
theorem g_f78 : G_f78 Ev := { is := is_W rfl, c_f85 := g_f85, c_f92 := g_f92, c_f89 := g_f89, c_f87 := g_f87 }
theorem g_f79 : G_f79 Ev := { is := is_W rfl, c_f84 := g_f84, c_f77 := g_f77 }
theorem g_f95 : G_f95 Ev := { is := is_W rfl }
theorem g_f80 : G_f80 Ev := { is := is_W rfl, c_f78 := g_f78, c_f79 := g_f79, c_f83 := g_f83, c_f95 := g_f95 }
theorem g_f82 : G_f82 Ev := { is := is_W rfl, c_f88 := g_f88, c_f78 := g_f78, c_f80 := g_f80 }
theorem g_f61 : G_f61 Ev := { is := is_W rfl }
theorem g_f62 : G_f62 Ev := { is := is_W rfl, c_f61 := g_f61 }
theorem g_f64 : G_f64 Ev := { is := is_W rfl }
theorem g_f65 : G_f65 Ev := { is := is_W rfl, c_f64 := g_f64 }
theorem g_f56 : G_f56 Ev := { is := is_W rfl, c_f62 := g_f62, c_f65 := g_f65 }
theorem g_f57 : G_f57 Ev := { is := is_W rfl, c_f56 := g_f56 }
theorem g_f33 : G_f33 Ev := { is := is_W rfl }
theorem g_f35 : G_f35 Ev := { is := is_W rfl, c_f33 := g_f33 }
theorem g_f36 : G_f36 Ev := { is := is_W rfl, c_f33 := g_f33 }
theorem g_f2 : G_f2 Ev := { is := is_W rfl }
theorem g_f0 : G_f0 Ev := { is := is_W rfl, c_f2 := g_f2 }
theorem g_f1 : G_f1 Ev := { is := is_W rfl }
theorem g_f28 : G_f28 Ev := { is := is_W rfl, c_f0 := g_f0, c_f1 := g_f1 }
theorem Qyi : IsSort Ev 362 12 := Qy0 rfl (fun a b => Qe0 g_f28 a b)
theorem g_f3 : G_f3 Ev := { is := is_W rfl, c_f33 := g_f33, c_f35 := g_f35, c_f36 := g_f36, c_f28 := g_f28 }
theorem g_f76 : G_f76 Ev := { is := is_W rfl }
theorem g_f71 : G_f71 Ev := { is := is_W rfl, c_f76 := g_f76 }
theorem g_f30 : G_f30 Ev := { is := is_W rfl, c_f71 := g_f71 }
theorem g_f75 : G_f75 Ev := { is := is_W rfl }
theorem g_f70 : G_f70 Ev := { is := is_W rfl, c_f75 := g_f75 }
theorem g_f19 : G_f19 Ev := { is := is_W rfl }
theorem g_f18 : G_f18 Ev := { is := is_W rfl, c_f70 := g_f70, c_f19 := g_f19 }
theorem g_f23 : G_f23 Ev := { is := is_W rfl, c_f3 := g_f3, c_f30 := g_f30, c_f18 := g_f18 }
theorem g_f72 : G_f72 Ev := { is := is_W rfl }
theorem g_f17 : G_f17 Ev := { is := is_W rfl }
theorem g_f16 : G_f16 Ev := { is := is_W rfl, c_f72 := g_f72, c_f17 := g_f17 }
theorem g_f21 : G_f21 Ev := { is := is_W rfl, c_f33 := g_f33 }
theorem g_f29 : G_f29 Ev := { is := is_W rfl, c_f0 := g_f0, c_f1 := g_f1 }
theorem g_f26 : G_f26 Ev := { is := is_W rfl, c_f33 := g_f33, c_f36 := g_f36, c_f29 := g_f29 }
theorem g_f37 : G_f37 Ev := { is := is_W rfl, c_f33 := g_f33 }
theorem g_f27 : G_f27 Ev := { is := is_W rfl, c_f36 := g_f36, c_f37 := g_f37 }
theorem g_f34 : G_f34 Ev := { is := is_W rfl, c_f35 := g_f35, c_f21 := g_f21, c_f26 := g_f26, c_f27 := g_f27 }
theorem g_f74 : G_f74 Ev := { is := is_W rfl }
theorem g_f69 : G_f69 Ev := { is := is_W rfl, c_f74 := g_f74 }
theorem g_f13 : G_f13 Ev := { is := is_W rfl }
theorem g_f12 : G_f12 Ev := { is := is_W rfl, c_f69 := g_f69, c_f13 := g_f13 }
theorem g_f25 : G_f25 Ev := { is := is_W rfl, c_f12 := g_f12 }
theorem g_f20 : G_f20 Ev := { is := is_W rfl, c_f16 := g_f16, c_f34 := g_f34, c_f25 := g_f25 }
theorem g_f22 : G_f22 Ev := { is := is_W rfl, c_f12 := g_f12 }
theorem g_f67 : G_f67 Ev := { is := is_W rfl }
theorem g_f32 : G_f32 Ev := { is := is_W rfl }
theorem g_f31 : G_f31 Ev := { is := is_W rfl, c_f28 := g_f28, c_f25 := g_f25, c_f22 := g_f22, c_f67 := g_f67, c_f32 := g_f32, c_slices_SortFunc_g362 := Qyi }
theorem g_f4 : G_f4 Ev := { is := is_W rfl, c_f20 := g_f20, c_f31 := g_f31 }
theorem g_f5 : G_f5 Ev := { is := is_W rfl, c_f3 := g_f3, c_f18 := g_f18, c_f71 := g_f71 }
theorem g_f7 : G_f7 Ev := { is := is_W rfl, c_f16 := g_f16 }
theorem g_f73 : G_f73 Ev := { is := is_W rfl }
theorem g_f68 : G_f68 Ev := { is := is_W rfl, c_f73 := g_f73 }
theorem g_f8 : G_f8 Ev := { is := is_W rfl }
theorem g_f9 : G_f9 Ev := { is := is_W rfl, c_f71 := g_f71 }
theorem g_f10 : G_f10 Ev := { is := is_W rfl, c_f12 := g_f12 }
theorem g_f11 : G_f11 Ev := { is := is_W rfl }
theorem g_f6 : G_f6 Ev := { is := is_W rfl, c_f4 := g_f4, c_f5 := g_f5, c_f7 := g_f7, c_f68 := g_f68, c_f8 := g_f8, c_f9 := g_f9, c_f69 := g_f69, c_f10 := g_f10, c_f70 := g_f70, c_f11 := g_f11 }
theorem g_f14 : G_f14 Ev := { is := is_W rfl, c_f23 := g_f23, c_f4 := g_f4, c_f6 := g_f6 }
theorem g_f41 : G_f41 Ev := { is := is_W rfl }
theorem g_f42 : G_f42 Ev := { is := is_W rfl }
theorem g_f43 : G_f43 Ev := { is := is_W rfl, c_f42 := g_f42 }
theorem g_f44 : G_f44 Ev := { is := is_W rfl }
theorem g_f45 : G_f45 Ev := { is := is_W rfl, c_f44 := g_f44 }
theorem g_f39 : G_f39 Ev := { is := is_W rfl, c_f43 := g_f43, c_f45 := g_f45 }
theorem g_f40 : G_f40 Ev := { is := is_W rfl, c_f39 := g_f39 }
theorem g_f46 : G_f46 Ev := { is := is_W rfl }
theorem g_f63 : G_f63 Ev := { is := is_W rfl, c_f61 := g_f61 }
theorem g_f66 : G_f66 Ev := { is := is_W rfl, c_f64 := g_f64 }
theorem g_f59 : G_f59 Ev := { is := is_W rfl, c_f63 := g_f63, c_f66 := g_f66 }
theorem g_f58 : G_f58 Ev := { is := is_W rfl, c_f59 := g_f59 }
theorem g_f24 : G_f24 Ev := { is := is_W rfl, c_f3 := g_f3, c_f30 := g_f30, c_f18 := g_f18 }
theorem g_f15 : G_f15 Ev := { is := is_W rfl, c_f4 := g_f4, c_f6 := g_f6, c_f24 := g_f24 }
theorem g_f50 : G_f50 Ev := { is := is_W rfl }
theorem g_f51 : G_f51 Ev := { is := is_W rfl }
theorem g_f48 : G_f48 Ev := { is := is_W rfl, c_f50 := g_f50, c_f51 := g_f51 }
theorem g_f49 : G_f49 Ev := { is := is_W rfl }
theorem g_f38 : G_f38 Ev := { is := is_W rfl, c_f53 := g_f53, c_f82 := g_f82, c_f57 := g_f57, c_f14 := g_f14, c_f41 := g_f41, c_f40 := g_f40, c_f46 := g_f46, c_f58 := g_f58, c_f15 := g_f15, c_f48 := g_f48, c_f49 := g_f49 }
end Go.Proofs.YtlgblpngiamhaaaGreat.Am.FnExactFindAnomaly
