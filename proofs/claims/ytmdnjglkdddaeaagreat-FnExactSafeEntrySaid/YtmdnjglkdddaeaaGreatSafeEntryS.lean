import Derived.Test.YtmdnjglkdddaeaaGreatChecked
import Derived.KernelRfl
import Derived.Test.YtmdnjglkdddaeaaGreatAmW
import Derived.Test.YtmdnjglkdddaeaaGreatSafeEntryF0
import Derived.Test.YtmdnjglkdddaeaaGreatSafeEntryF1
import Derived.Test.YtmdnjglkdddaeaaGreatSafeEntryF2
namespace Go.Proofs.YtmdnjglkdddaeaaGreat.Am.FnExactSafeEntry
open Go Go.Proofs
set_option linter.unusedVariables false
set_option maxRecDepth 100000
def rho (m : Nat) : FuncId := match [(6, 81), (9, 140), (10, 121), (11, 129), (13, 175), (14, 174), (15, 176), (23, 37), (24, 36), (27, 45), (28, 44), (29, 93), (30, 94), (33, 53), (34, 52), (35, 105), (36, 106), (56, 32), (70, 112), (71, 150), (72, 160), (73, 161), (74, 162), (75, 171), (76, 172), (92, 58), (93, 10), (94, 139), (97, 13), (98, 80), (99, 7), (100, 35), (101, 85), (102, 64), (103, 109), (104, 149), (105, 165), (106, 114), (107, 43), (108, 92), (109, 142), (110, 70), (111, 130), (112, 118), (113, 153), (114, 152), (115, 166), (116, 154), (117, 167), (118, 51), (119, 104), (120, 148), (124, 21), (125, 23), (128, 19), (129, 62), (130, 61), (131, 60), (132, 8), (133, 63), (135, 113), (136, 86), (137, 110), (138, 111), (139, 87), (140, 91), (141, 82), (142, 68), (143, 67), (144, 66), (145, 11), (146, 116), (147, 117), (148, 69), (150, 119), (151, 120), (152, 122), (153, 123), (154, 125), (155, 124), (156, 128), (157, 127), (158, 156), (159, 155), (160, 168), (161, 170), (162, 169), (163, 173), (164, 102), (165, 147), (166, 164), (167, 163), (168, 157), (169, 126), (170, 83), (171, 138), (172, 135), (173, 158), (174, 74), (175, 73), (176, 72), (177, 14), (178, 132), (179, 133), (182, 151), (183, 89), (184, 131), (185, 159), (186, 146), (189, 115), (192, 65), (193, 71), (235, 59), (402, 6), (403, 34), (404, 31), (405, 30), (406, 84), (100027, 45), (100028, 44), (100093, 10), (100094, 139), (100107, 43), (100108, 92), (100124, 21), (100142, 68), (100143, 67), (100144, 66), (100145, 11), (100404, 31), (100406, 84), (200095, 55), (200121, 54), (200122, 107), (200232, 56), (200316, 79), (200317, 78), (200318, 77)].lookup m with | some f => f | none => 0
theorem f77_match : matchFn Tryz.prog rho 101 2 f77_ac [(4, none)] = true := by kernel_rfl
theorem f78_match : matchFn Tryz.prog rho 100 2 f78_ac [(4, none)] = true := by kernel_rfl
theorem f74_match : matchFn Tryz.prog rho 99 2 f74_ac [(4, none)] = true := by kernel_rfl
theorem f73_match : matchFn Tryz.prog rho 24 2 f73_ac [(4, none)] = true := by kernel_rfl
theorem f80_match : matchFn Tryz.prog rho 23 2 f80_ac [(4, none)] = true := by kernel_rfl
theorem f75_match : matchFn Tryz.prog rho 132 2 f75_ac [(4, none)] = true := by kernel_rfl
theorem f76_match : matchFn Tryz.prog rho 131 2 f76_ac [(4, none)] = true := by kernel_rfl
theorem f72_match : matchFn Tryz.prog rho 130 2 f72_ac [(4, none)] = true := by kernel_rfl
theorem f79_match : matchFn Tryz.prog rho 129 2 f79_ac [(4, none)] = true := by kernel_rfl
theorem f71_match : matchFn Tryz.prog rho 128 2 f71_ac [(4, none)] = true := by kernel_rfl
theorem f95_match : matchFn Tryz.prog rho 109 1 f95_ac [(2, some (true, 5))] = true := by kernel_rfl
theorem f96_match : matchFn Tryz.prog rho 108 1 f96_ac [(2, none)] = true := by kernel_rfl
theorem f97_match : matchFn Tryz.prog rho 107 1 f97_ac [(2, none)] = true := by kernel_rfl
theorem f89_match : matchFn Tryz.prog rho 93 1 f89_ac [(2, some (true, 1))] = true := by kernel_rfl
theorem f86_match : matchFn Tryz.prog rho 29 1 f86_ac [(2, some (true, 2))] = true := by kernel_rfl
theorem f87_match : matchFn Tryz.prog rho 28 1 f87_ac [(2, none)] = true := by kernel_rfl
theorem f103_match : matchFn Tryz.prog rho 30 1 f103_ac [(2, some (true, 2))] = true := by kernel_rfl
theorem f104_match : matchFn Tryz.prog rho 27 1 f104_ac [(2, none)] = true := by kernel_rfl
theorem f91_match : matchFn Tryz.prog rho 145 1 f91_ac [(2, some (true, 9))] = true := by kernel_rfl
theorem f92_match : matchFn Tryz.prog rho 144 1 f92_ac [(2, none)] = true := by kernel_rfl
theorem f83_match : matchFn Tryz.prog rho 146 1 f83_ac [(2, some (true, 2))] = true := by kernel_rfl
theorem f84_match : matchFn Tryz.prog rho 143 1 f84_ac [(2, none)] = true := by kernel_rfl
theorem f100_match : matchFn Tryz.prog rho 147 1 f100_ac [(2, some (true, 2))] = true := by kernel_rfl
theorem f101_match : matchFn Tryz.prog rho 142 1 f101_ac [(2, none)] = true := by kernel_rfl
theorem f81_match : matchFn Tryz.prog rho 124 1 f81_ac [(2, some (true, 6))] = true := by kernel_rfl
theorem f54_match : matchFn Tryz.prog rho 120 2 f54_ac [(4, none)] = true := by kernel_rfl
theorem f55_match : matchFn Tryz.prog rho 119 2 f55_ac [(4, none)] = true := by kernel_rfl
theorem f56_match : matchFn Tryz.prog rho 118 2 f56_ac [(4, none)] = true := by kernel_rfl
theorem f51_match : matchFn Tryz.prog rho 97 2 f51_ac [(4, none)] = true := by kernel_rfl
theorem f49_match : matchFn Tryz.prog rho 35 2 f49_ac [(4, none)] = true := by kernel_rfl
theorem f50_match : matchFn Tryz.prog rho 34 2 f50_ac [(4, none)] = true := by kernel_rfl
theorem f59_match : matchFn Tryz.prog rho 36 2 f59_ac [(4, none)] = true := by kernel_rfl
theorem f60_match : matchFn Tryz.prog rho 33 2 f60_ac [(4, none)] = true := by kernel_rfl
theorem f52_match : matchFn Tryz.prog rho 177 2 f52_ac [(4, none)] = true := by kernel_rfl
theorem f53_match : matchFn Tryz.prog rho 176 2 f53_ac [(4, none)] = true := by kernel_rfl
theorem f47_match : matchFn Tryz.prog rho 178 2 f47_ac [(4, none)] = true := by kernel_rfl
theorem f48_match : matchFn Tryz.prog rho 175 2 f48_ac [(4, none)] = true := by kernel_rfl
theorem f57_match : matchFn Tryz.prog rho 179 2 f57_ac [(4, none)] = true := by kernel_rfl
theorem f58_match : matchFn Tryz.prog rho 174 2 f58_ac [(4, none)] = true := by kernel_rfl
theorem f45_match : matchFn Tryz.prog rho 125 2 f45_ac [(4, none)] = true := by kernel_rfl
theorem f136_match : matchFn Tryz.prog rho 6 3 f136_ac [(6, none)] = true := by kernel_rfl
theorem f119_match : matchFn Tryz.prog rho 140 2 f119_ac [(4, none)] = true := by kernel_rfl
theorem f125_match : matchFn Tryz.prog rho 105 1 f125_ac [(2, none)] = true := by kernel_rfl
theorem f121_match : matchFn Tryz.prog rho 104 1 f121_ac [(2, none)] = true := by kernel_rfl
theorem f123_match : matchFn Tryz.prog rho 103 1 f123_ac [(2, none)] = true := by kernel_rfl
theorem f137_match : matchFn Tryz.prog rho 71 2 f137_ac [(4, none)] = true := by kernel_rfl
theorem f124_match : matchFn Tryz.prog rho 70 1 f124_ac [(2, none)] = true := by kernel_rfl
theorem f129_match : matchFn Tryz.prog rho 136 2 f129_ac [(4, none)] = true := by kernel_rfl
theorem f126_match : matchFn Tryz.prog rho 139 1 f126_ac [(2, none)] = true := by kernel_rfl
theorem f116_match : matchFn Tryz.prog rho 137 1 f116_ac [(2, none)] = true := by kernel_rfl
theorem f117_match : matchFn Tryz.prog rho 138 1 f117_ac [(2, none)] = true := by kernel_rfl
theorem f118_match : matchFn Tryz.prog rho 141 2 f118_ac [(4, none)] = true := by kernel_rfl
theorem f135_match : matchFn Tryz.prog rho 135 2 f135_ac [(4, none)] = true := by kernel_rfl
theorem f122_match : matchFn Tryz.prog rho 133 1 f122_ac [(2, none)] = true := by kernel_rfl
theorem f130_match : matchFn Tryz.prog rho 183 2 f130_ac [(4, none)] = true := by kernel_rfl
theorem f133_match : matchFn Tryz.prog rho 182 2 f133_ac [(4, none)] = true := by kernel_rfl
theorem f120_match : matchFn Tryz.prog rho 189 2 f120_ac [(4, none)] = true := by kernel_rfl
theorem f132_match : matchFn Tryz.prog rho 192 1 f132_ac [(2, none)] = true := by kernel_rfl
theorem f134_match : matchFn Tryz.prog rho 106 2 f134_ac [(4, none)] = true := by kernel_rfl
theorem f128_match : matchFn Tryz.prog rho 102 3 f128_ac [(6, some (true, 5)), (7, none)] = true := by kernel_rfl
theorem f127_match : matchFn Tryz.prog rho 98 2 f127_ac [(4, none)] = true := by kernel_rfl
theorem f131_match : matchFn Tryz.prog rho 405 2 f131_ac [(4, some (true, 4)), (5, none)] = true := by kernel_rfl
theorem f110_match : matchFn Tryz.prog rho 115 2 f110_ac [(4, none)] = true := by kernel_rfl
theorem f106_match : matchFn Tryz.prog rho 114 2 f106_ac [(4, none)] = true := by kernel_rfl
theorem f36_match : matchFn Tryz.prog rho 10 3 f36_ac [(6, none)] = true := by kernel_rfl
theorem f37_match : matchFn Tryz.prog rho 9 1 f37_ac [(2, none)] = true := by kernel_rfl
theorem f40_match : matchFn Tryz.prog rho 76 1 f40_ac [(2, none)] = true := by kernel_rfl
theorem f22_match : matchFn Tryz.prog rho 117 1 f22_ac [(2, none)] = true := by kernel_rfl
theorem f15_match : matchFn Tryz.prog rho 116 1 f15_ac [(2, none)] = true := by kernel_rfl
theorem f20_match : matchFn Tryz.prog rho 113 1 f20_ac [(2, none)] = true := by kernel_rfl
theorem f19_match : matchFn Tryz.prog rho 112 1 f19_ac [(2, none)] = true := by kernel_rfl
theorem f38_match : matchFn Tryz.prog rho 11 1 f38_ac [(2, none)] = true := by kernel_rfl
theorem f3_match : matchFn Tryz.prog rho 150 1 f3_ac [(2, none)] = true := by kernel_rfl
theorem f4_match : matchFn Tryz.prog rho 151 1 f4_ac [(2, none)] = true := by kernel_rfl
theorem f29_match : matchFn Tryz.prog rho 152 1 f29_ac [(2, none)] = true := by kernel_rfl
theorem f14_match : matchFn Tryz.prog rho 72 1 f14_ac [(2, none)] = true := by kernel_rfl
theorem f1_match : matchFn Tryz.prog rho 14 1 f1_ac [(2, none)] = true := by kernel_rfl
theorem f2_match : matchFn Tryz.prog rho 15 1 f2_ac [(2, none)] = true := by kernel_rfl
theorem f0_match : matchFn Tryz.prog rho 13 2 f0_ac [(4, none)] = true := by kernel_rfl
theorem f35_match : matchFn Tryz.prog rho 75 2 f35_ac [(4, none)] = true := by kernel_rfl
theorem f33_match : matchFn Tryz.prog rho 73 1 f33_ac [(2, none)] = true := by kernel_rfl
theorem f34_match : matchFn Tryz.prog rho 74 1 f34_ac [(2, none)] = true := by kernel_rfl
theorem f39_match : matchFn Tryz.prog rho 160 1 f39_ac [(2, none)] = true := by kernel_rfl
theorem f21_match : matchFn Tryz.prog rho 159 1 f21_ac [(2, none)] = true := by kernel_rfl
theorem f111_match : matchFn Tryz.prog rho 163 2 f111_ac [(4, none)] = true := by kernel_rfl
theorem f109_match : matchFn Tryz.prog rho 162 2 f109_ac [(4, none)] = true := by kernel_rfl
theorem f112_match : matchFn Tryz.prog rho 167 2 f112_ac [(4, none)] = true := by kernel_rfl
theorem f13_match : matchFn Tryz.prog rho 166 2 f13_ac [(3, none)] = true := by kernel_rfl
theorem f12_match : matchFn Tryz.prog rho 165 2 f12_ac [(4, none)] = true := by kernel_rfl
theorem f28_match : matchFn Tryz.prog rho 164 2 f28_ac [(4, none)] = true := by kernel_rfl
theorem f31_match : matchFn Tryz.prog rho 161 2 f31_ac [(3, none)] = true := by kernel_rfl
theorem f30_match : matchFn Tryz.prog rho 158 2 f30_ac [(4, none)] = true := by kernel_rfl
theorem f5_match : matchFn Tryz.prog rho 153 1 f5_ac [(2, none)] = true := by kernel_rfl
theorem f113_match : matchFn Tryz.prog rho 168 2 f113_ac [(4, none)] = true := by kernel_rfl
theorem f107_match : matchFn Tryz.prog rho 155 2 f107_ac [(4, none)] = true := by kernel_rfl
theorem f114_match : matchFn Tryz.prog rho 172 2 f114_ac [(4, none)] = true := by kernel_rfl
theorem f11_match : matchFn Tryz.prog rho 171 2 f11_ac [(3, none)] = true := by kernel_rfl
theorem f10_match : matchFn Tryz.prog rho 170 2 f10_ac [(4, none)] = true := by kernel_rfl
theorem f7_match : matchFn Tryz.prog rho 169 2 f7_ac [(4, none)] = true := by kernel_rfl
theorem f17_match : matchFn Tryz.prog rho 154 2 f17_ac [(3, none)] = true := by kernel_rfl
theorem f115_match : matchFn Tryz.prog rho 173 2 f115_ac [(4, none)] = true := by kernel_rfl
theorem f108_match : matchFn Tryz.prog rho 157 2 f108_ac [(4, none)] = true := by kernel_rfl
theorem f18_match : matchFn Tryz.prog rho 156 2 f18_ac [(3, none)] = true := by kernel_rfl
theorem f16_match : matchFn Tryz.prog rho 148 1 f16_ac [(2, none)] = true := by kernel_rfl
theorem f32_match : matchFn Tryz.prog rho 186 2 f32_ac [(4, none)] = true := by kernel_rfl
theorem f9_match : matchFn Tryz.prog rho 185 3 f9_ac [(6, none)] = true := by kernel_rfl
theorem f6_match : matchFn Tryz.prog rho 184 2 f6_ac [(4, none)] = true := by kernel_rfl
theorem f8_match : matchFn Tryz.prog rho 193 1 f8_ac [(2, none)] = true := by kernel_rfl
theorem f43_match : matchFn Tryz.prog rho 111 2 f43_ac [(4, none)] = true := by kernel_rfl
theorem f25_match : matchFn Tryz.prog rho 110 3 f25_ac [(6, some (true, 5)), (7, none)] = true := by kernel_rfl
theorem f23_match : matchFn Tryz.prog rho 94 2 f23_ac [(4, none)] = true := by kernel_rfl
theorem f41_match : matchFn Tryz.prog rho 406 3 f41_ac [(6, some (true, 4)), (7, none)] = true := by kernel_rfl
theorem f26_match : matchFn Tryz.prog rho 404 2 f26_ac [(4, some (true, 4)), (5, none)] = true := by kernel_rfl
theorem f46_match : matchFn Tryz.prog rho 56 2 f46_ac [(4, none)] = true := by kernel_rfl
theorem f62_match : matchFn Tryz.prog rho 92 2 f62_ac [(4, none)] = true := by kernel_rfl
theorem f63_match : matchFn Tryz.prog rho 235 2 f63_ac [(4, none)] = true := by kernel_rfl
theorem f61_match : matchFn Tryz.prog rho 403 2 f61_ac [(4, none)] = true := by kernel_rfl
theorem f99_match : matchFn Tryz.prog rho 100108 1 f99_ac [(2, none)] = true := by kernel_rfl
theorem f98_match : matchFn Tryz.prog rho 100107 1 f98_ac [(2, none)] = true := by kernel_rfl
theorem f90_match : matchFn Tryz.prog rho 100093 1 f90_ac [(2, some (true, 1))] = true := by kernel_rfl
theorem f88_match : matchFn Tryz.prog rho 100028 1 f88_ac [(2, none)] = true := by kernel_rfl
theorem f105_match : matchFn Tryz.prog rho 100027 1 f105_ac [(2, none)] = true := by kernel_rfl
theorem f94_match : matchFn Tryz.prog rho 100145 1 f94_ac [(2, some (true, 9))] = true := by kernel_rfl
theorem f93_match : matchFn Tryz.prog rho 100144 1 f93_ac [(2, none)] = true := by kernel_rfl
theorem f85_match : matchFn Tryz.prog rho 100143 1 f85_ac [(2, none)] = true := by kernel_rfl
theorem f102_match : matchFn Tryz.prog rho 100142 1 f102_ac [(2, none)] = true := by kernel_rfl
theorem f82_match : matchFn Tryz.prog rho 100124 1 f82_ac [(2, some (true, 6))] = true := by kernel_rfl
theorem f24_match : matchFn Tryz.prog rho 100094 2 f24_ac [(4, none)] = true := by kernel_rfl
theorem f42_match : matchFn Tryz.prog rho 100406 3 f42_ac [(6, some (true, 4)), (7, none)] = true := by kernel_rfl
theorem f27_match : matchFn Tryz.prog rho 100404 2 f27_ac [(4, some (true, 4)), (5, none)] = true := by kernel_rfl
theorem f68_match : matchFn Tryz.prog rho 200122 2 f68_ac [(4, none)] = true := by kernel_rfl
theorem f67_match : matchFn Tryz.prog rho 200121 2 f67_ac [(4, none)] = true := by kernel_rfl
theorem f65_match : matchFn Tryz.prog rho 200095 2 f65_ac [(4, none)] = true := by kernel_rfl
theorem f70_match : matchFn Tryz.prog rho 200232 2 f70_ac [(4, none)] = true := by kernel_rfl
theorem f66_match : matchFn Tryz.prog rho 200318 2 f66_ac [(4, none)] = true := by kernel_rfl
theorem f64_match : matchFn Tryz.prog rho 200317 2 f64_ac [(4, none)] = true := by kernel_rfl
theorem f69_match : matchFn Tryz.prog rho 200316 2 f69_ac [(4, none)] = true := by kernel_rfl
theorem f44_match : matchFn Tryz.prog rho 402 2 f44_ac [(4, none)] = true := by kernel_rfl
def tbl : List (Nat × Fn) := [(101, ⟨2, f77_ac, [(4, none)]⟩),
  (100, ⟨2, f78_ac, [(4, none)]⟩),
  (99, ⟨2, f74_ac, [(4, none)]⟩),
  (24, ⟨2, f73_ac, [(4, none)]⟩),
  (23, ⟨2, f80_ac, [(4, none)]⟩),
  (132, ⟨2, f75_ac, [(4, none)]⟩),
  (131, ⟨2, f76_ac, [(4, none)]⟩),
  (130, ⟨2, f72_ac, [(4, none)]⟩),
  (129, ⟨2, f79_ac, [(4, none)]⟩),
  (128, ⟨2, f71_ac, [(4, none)]⟩),
  (109, ⟨1, f95_ac, [(2, some (true, 5))]⟩),
  (108, ⟨1, f96_ac, [(2, none)]⟩),
  (107, ⟨1, f97_ac, [(2, none)]⟩),
  (93, ⟨1, f89_ac, [(2, some (true, 1))]⟩),
  (29, ⟨1, f86_ac, [(2, some (true, 2))]⟩),
  (28, ⟨1, f87_ac, [(2, none)]⟩),
  (30, ⟨1, f103_ac, [(2, some (true, 2))]⟩),
  (27, ⟨1, f104_ac, [(2, none)]⟩),
  (145, ⟨1, f91_ac, [(2, some (true, 9))]⟩),
  (144, ⟨1, f92_ac, [(2, none)]⟩),
  (146, ⟨1, f83_ac, [(2, some (true, 2))]⟩),
  (143, ⟨1, f84_ac, [(2, none)]⟩),
  (147, ⟨1, f100_ac, [(2, some (true, 2))]⟩),
  (142, ⟨1, f101_ac, [(2, none)]⟩),
  (124, ⟨1, f81_ac, [(2, some (true, 6))]⟩),
  (120, ⟨2, f54_ac, [(4, none)]⟩),
  (119, ⟨2, f55_ac, [(4, none)]⟩),
  (118, ⟨2, f56_ac, [(4, none)]⟩),
  (97, ⟨2, f51_ac, [(4, none)]⟩),
  (35, ⟨2, f49_ac, [(4, none)]⟩),
  (34, ⟨2, f50_ac, [(4, none)]⟩),
  (36, ⟨2, f59_ac, [(4, none)]⟩),
  (33, ⟨2, f60_ac, [(4, none)]⟩),
  (177, ⟨2, f52_ac, [(4, none)]⟩),
  (176, ⟨2, f53_ac, [(4, none)]⟩),
  (178, ⟨2, f47_ac, [(4, none)]⟩),
  (175, ⟨2, f48_ac, [(4, none)]⟩),
  (179, ⟨2, f57_ac, [(4, none)]⟩),
  (174, ⟨2, f58_ac, [(4, none)]⟩),
  (125, ⟨2, f45_ac, [(4, none)]⟩),
  (6, ⟨3, f136_ac, [(6, none)]⟩),
  (140, ⟨2, f119_ac, [(4, none)]⟩),
  (105, ⟨1, f125_ac, [(2, none)]⟩),
  (104, ⟨1, f121_ac, [(2, none)]⟩),
  (103, ⟨1, f123_ac, [(2, none)]⟩),
  (71, ⟨2, f137_ac, [(4, none)]⟩),
  (70, ⟨1, f124_ac, [(2, none)]⟩),
  (136, ⟨2, f129_ac, [(4, none)]⟩),
  (139, ⟨1, f126_ac, [(2, none)]⟩),
  (137, ⟨1, f116_ac, [(2, none)]⟩),
  (138, ⟨1, f117_ac, [(2, none)]⟩),
  (141, ⟨2, f118_ac, [(4, none)]⟩),
  (135, ⟨2, f135_ac, [(4, none)]⟩),
  (133, ⟨1, f122_ac, [(2, none)]⟩),
  (183, ⟨2, f130_ac, [(4, none)]⟩),
  (182, ⟨2, f133_ac, [(4, none)]⟩),
  (189, ⟨2, f120_ac, [(4, none)]⟩),
  (192, ⟨1, f132_ac, [(2, none)]⟩),
  (106, ⟨2, f134_ac, [(4, none)]⟩),
  (102, ⟨3, f128_ac, [(6, some (true, 5)), (7, none)]⟩),
  (98, ⟨2, f127_ac, [(4, none)]⟩),
  (405, ⟨2, f131_ac, [(4, some (true, 4)), (5, none)]⟩),
  (115, ⟨2, f110_ac, [(4, none)]⟩),
  (114, ⟨2, f106_ac, [(4, none)]⟩),
  (10, ⟨3, f36_ac, [(6, none)]⟩),
  (9, ⟨1, f37_ac, [(2, none)]⟩),
  (76, ⟨1, f40_ac, [(2, none)]⟩),
  (117, ⟨1, f22_ac, [(2, none)]⟩),
  (116, ⟨1, f15_ac, [(2, none)]⟩),
  (113, ⟨1, f20_ac, [(2, none)]⟩),
  (112, ⟨1, f19_ac, [(2, none)]⟩),
  (11, ⟨1, f38_ac, [(2, none)]⟩),
  (150, ⟨1, f3_ac, [(2, none)]⟩),
  (151, ⟨1, f4_ac, [(2, none)]⟩),
  (152, ⟨1, f29_ac, [(2, none)]⟩),
  (72, ⟨1, f14_ac, [(2, none)]⟩),
  (14, ⟨1, f1_ac, [(2, none)]⟩),
  (15, ⟨1, f2_ac, [(2, none)]⟩),
  (13, ⟨2, f0_ac, [(4, none)]⟩),
  (75, ⟨2, f35_ac, [(4, none)]⟩),
  (73, ⟨1, f33_ac, [(2, none)]⟩),
  (74, ⟨1, f34_ac, [(2, none)]⟩),
  (160, ⟨1, f39_ac, [(2, none)]⟩),
  (159, ⟨1, f21_ac, [(2, none)]⟩),
  (163, ⟨2, f111_ac, [(4, none)]⟩),
  (162, ⟨2, f109_ac, [(4, none)]⟩),
  (167, ⟨2, f112_ac, [(4, none)]⟩),
  (166, ⟨2, f13_ac, [(3, none)]⟩),
  (165, ⟨2, f12_ac, [(4, none)]⟩),
  (164, ⟨2, f28_ac, [(4, none)]⟩),
  (161, ⟨2, f31_ac, [(3, none)]⟩),
  (158, ⟨2, f30_ac, [(4, none)]⟩),
  (153, ⟨1, f5_ac, [(2, none)]⟩),
  (168, ⟨2, f113_ac, [(4, none)]⟩),
  (155, ⟨2, f107_ac, [(4, none)]⟩),
  (172, ⟨2, f114_ac, [(4, none)]⟩),
  (171, ⟨2, f11_ac, [(3, none)]⟩),
  (170, ⟨2, f10_ac, [(4, none)]⟩),
  (169, ⟨2, f7_ac, [(4, none)]⟩),
  (154, ⟨2, f17_ac, [(3, none)]⟩),
  (173, ⟨2, f115_ac, [(4, none)]⟩),
  (157, ⟨2, f108_ac, [(4, none)]⟩),
  (156, ⟨2, f18_ac, [(3, none)]⟩),
  (148, ⟨1, f16_ac, [(2, none)]⟩),
  (186, ⟨2, f32_ac, [(4, none)]⟩),
  (185, ⟨3, f9_ac, [(6, none)]⟩),
  (184, ⟨2, f6_ac, [(4, none)]⟩),
  (193, ⟨1, f8_ac, [(2, none)]⟩),
  (111, ⟨2, f43_ac, [(4, none)]⟩),
  (110, ⟨3, f25_ac, [(6, some (true, 5)), (7, none)]⟩),
  (94, ⟨2, f23_ac, [(4, none)]⟩),
  (406, ⟨3, f41_ac, [(6, some (true, 4)), (7, none)]⟩),
  (404, ⟨2, f26_ac, [(4, some (true, 4)), (5, none)]⟩),
  (56, ⟨2, f46_ac, [(4, none)]⟩),
  (92, ⟨2, f62_ac, [(4, none)]⟩),
  (235, ⟨2, f63_ac, [(4, none)]⟩),
  (403, ⟨2, f61_ac, [(4, none)]⟩),
  (100108, ⟨1, f99_ac, [(2, none)]⟩),
  (100107, ⟨1, f98_ac, [(2, none)]⟩),
  (100093, ⟨1, f90_ac, [(2, some (true, 1))]⟩),
  (100028, ⟨1, f88_ac, [(2, none)]⟩),
  (100027, ⟨1, f105_ac, [(2, none)]⟩),
  (100145, ⟨1, f94_ac, [(2, some (true, 9))]⟩),
  (100144, ⟨1, f93_ac, [(2, none)]⟩),
  (100143, ⟨1, f85_ac, [(2, none)]⟩),
  (100142, ⟨1, f102_ac, [(2, none)]⟩),
  (100124, ⟨1, f82_ac, [(2, some (true, 6))]⟩),
  (100094, ⟨2, f24_ac, [(4, none)]⟩),
  (100406, ⟨3, f42_ac, [(6, some (true, 4)), (7, none)]⟩),
  (100404, ⟨2, f27_ac, [(4, some (true, 4)), (5, none)]⟩),
  (200122, ⟨2, f68_ac, [(4, none)]⟩),
  (200121, ⟨2, f67_ac, [(4, none)]⟩),
  (200095, ⟨2, f65_ac, [(4, none)]⟩),
  (200232, ⟨2, f70_ac, [(4, none)]⟩),
  (200318, ⟨2, f66_ac, [(4, none)]⟩),
  (200317, ⟨2, f64_ac, [(4, none)]⟩),
  (200316, ⟨2, f69_ac, [(4, none)]⟩),
  (402, ⟨2, f44_ac, [(4, none)]⟩)]
theorem tbl_all : AllMatch Tryz.prog rho tbl := ⟨f77_match, f78_match, f74_match, f73_match, f80_match, f75_match, f76_match, f72_match, f79_match, f71_match, f95_match, f96_match, f97_match, f89_match, f86_match, f87_match, f103_match, f104_match, f91_match, f92_match, f83_match, f84_match, f100_match, f101_match, f81_match, f54_match, f55_match, f56_match, f51_match, f49_match, f50_match, f59_match, f60_match, f52_match, f53_match, f47_match, f48_match, f57_match, f58_match, f45_match, f136_match, f119_match, f125_match, f121_match, f123_match, f137_match, f124_match, f129_match, f126_match, f116_match, f117_match, f118_match, f135_match, f122_match, f130_match, f133_match, f120_match, f132_match, f134_match, f128_match, f127_match, f131_match, f110_match, f106_match, f36_match, f37_match, f40_match, f22_match, f15_match, f20_match, f19_match, f38_match, f3_match, f4_match, f29_match, f14_match, f1_match, f2_match, f0_match, f35_match, f33_match, f34_match, f39_match, f21_match, f111_match, f109_match, f112_match, f13_match, f12_match, f28_match, f31_match, f30_match, f5_match, f113_match, f107_match, f114_match, f11_match, f10_match, f7_match, f17_match, f115_match, f108_match, f18_match, f16_match, f32_match, f9_match, f6_match, f8_match, f43_match, f25_match, f23_match, f41_match, f26_match, f46_match, f62_match, f63_match, f61_match, f99_match, f98_match, f90_match, f88_match, f105_match, f94_match, f93_match, f85_match, f102_match, f82_match, f24_match, f42_match, f27_match, f68_match, f67_match, f65_match, f70_match, f66_match, f64_match, f69_match, f44_match, trivial⟩
noncomputable abbrev Ev : Env := EnvW noEnv (look tbl)
theorem good : Good Tryz.prog rho Ev := good_W (tbl_ok tbl_all) (by kernel_rfl) good_no
theorem g_f77 : G_f77 Ev := { is := is_W rfl }
theorem g_f78 : G_f78 Ev := { is := is_W rfl, c_f77 := g_f77 }
theorem g_f74 : G_f74 Ev := { is := is_W rfl, c_f78 := g_f78 }
theorem g_f73 : G_f73 Ev := { is := is_W rfl }
theorem g_f80 : G_f80 Ev := { is := is_W rfl }
theorem g_f75 : G_f75 Ev := { is := is_W rfl, c_f73 := g_f73, c_f80 := g_f80 }
theorem g_f76 : G_f76 Ev := { is := is_W rfl, c_f75 := g_f75 }
theorem g_f72 : G_f72 Ev := { is := is_W rfl }
theorem g_f79 : G_f79 Ev := { is := is_W rfl }
theorem g_f71 : G_f71 Ev := { is := is_W rfl, c_f74 := g_f74, c_f76 := g_f76, c_f72 := g_f72, c_f79 := g_f79 }
theorem g_f95 : G_f95 Ev := { is := is_W rfl }
theorem g_f96 : G_f96 Ev := { is := is_W rfl, c_f95 := g_f95 }
theorem g_f97 : G_f97 Ev := { is := is_W rfl, c_f96 := g_f96 }
theorem g_f89 : G_f89 Ev := { is := is_W rfl, c_f97 := g_f97 }
theorem g_f86 : G_f86 Ev := { is := is_W rfl }
theorem g_f87 : G_f87 Ev := { is := is_W rfl, c_f86 := g_f86 }
theorem g_f103 : G_f103 Ev := { is := is_W rfl }
theorem g_f104 : G_f104 Ev := { is := is_W rfl, c_f103 := g_f103 }
theorem g_f91 : G_f91 Ev := { is := is_W rfl, c_f87 := g_f87, c_f104 := g_f104 }
theorem g_f92 : G_f92 Ev := { is := is_W rfl, c_f91 := g_f91 }
theorem g_f83 : G_f83 Ev := { is := is_W rfl }
theorem g_f84 : G_f84 Ev := { is := is_W rfl, c_f83 := g_f83 }
theorem g_f100 : G_f100 Ev := { is := is_W rfl }
theorem g_f101 : G_f101 Ev := { is := is_W rfl, c_f100 := g_f100 }
theorem g_f81 : G_f81 Ev := { is := is_W rfl, c_f89 := g_f89, c_f92 := g_f92, c_f84 := g_f84, c_f101 := g_f101 }
theorem g_f54 : G_f54 Ev := { is := is_W rfl }
theorem g_f55 : G_f55 Ev := { is := is_W rfl, c_f54 := g_f54 }
theorem g_f56 : G_f56 Ev := { is := is_W rfl, c_f55 := g_f55 }
theorem g_f51 : G_f51 Ev := { is := is_W rfl, c_f56 := g_f56 }
theorem g_f49 : G_f49 Ev := { is := is_W rfl }
theorem g_f50 : G_f50 Ev := { is := is_W rfl, c_f49 := g_f49 }
theorem g_f59 : G_f59 Ev := { is := is_W rfl }
theorem g_f60 : G_f60 Ev := { is := is_W rfl, c_f59 := g_f59 }
theorem g_f52 : G_f52 Ev := { is := is_W rfl, c_f50 := g_f50, c_f60 := g_f60 }
theorem g_f53 : G_f53 Ev := { is := is_W rfl, c_f52 := g_f52 }
theorem g_f47 : G_f47 Ev := { is := is_W rfl }
theorem g_f48 : G_f48 Ev := { is := is_W rfl, c_f47 := g_f47 }
theorem g_f57 : G_f57 Ev := { is := is_W rfl }
theorem g_f58 : G_f58 Ev := { is := is_W rfl, c_f57 := g_f57 }
theorem g_f45 : G_f45 Ev := { is := is_W rfl, c_f51 := g_f51, c_f53 := g_f53, c_f48 := g_f48, c_f58 := g_f58 }
theorem g_f136 : G_f136 Ev := { is := is_W rfl }
theorem g_f119 : G_f119 Ev := { is := is_W rfl }
theorem g_f125 : G_f125 Ev := { is := is_W rfl, c_f136 := g_f136 }
theorem g_f121 : G_f121 Ev := { is := is_W rfl, c_f125 := g_f125 }
theorem g_f123 : G_f123 Ev := { is := is_W rfl, c_f121 := g_f121 }
theorem g_f137 : G_f137 Ev := { is := is_W rfl }
theorem g_f124 : G_f124 Ev := { is := is_W rfl, c_f136 := g_f136, c_f137 := g_f137 }
theorem g_f129 : G_f129 Ev := { is := is_W rfl, c_f119 := g_f119, c_f123 := g_f123, c_f124 := g_f124 }
theorem g_f126 : G_f126 Ev := { is := is_W rfl, c_f123 := g_f123 }
theorem g_f116 : G_f116 Ev := { is := is_W rfl, c_f136 := g_f136 }
theorem g_f117 : G_f117 Ev := { is := is_W rfl, c_f136 := g_f136 }
theorem g_f118 : G_f118 Ev := { is := is_W rfl }
theorem g_f135 : G_f135 Ev := { is := is_W rfl, c_f118 := g_f118 }
theorem g_f122 : G_f122 Ev := { is := is_W rfl, c_f136 := g_f136, c_f129 := g_f129, c_f126 := g_f126, c_f123 := g_f123, c_f116 := g_f116, c_f117 := g_f117, c_f124 := g_f124, c_f135 := g_f135 }
theorem g_f130 : G_f130 Ev := { is := is_W rfl, c_f129 := g_f129, c_f119 := g_f119 }
theorem g_f133 : G_f133 Ev := { is := is_W rfl, c_f122 := g_f122, c_f136 := g_f136, c_f130 := g_f130 }
theorem g_f120 : G_f120 Ev := { is := is_W rfl, c_f122 := g_f122, c_f136 := g_f136, c_f133 := g_f133 }
theorem g_f132 : G_f132 Ev := { is := is_W rfl, c_f122 := g_f122, c_f120 := g_f120 }
theorem g_f134 : G_f134 Ev := { is := is_W rfl, c_f121 := g_f121 }
theorem g_f128 : G_f128 Ev := { is := is_W rfl, c_f136 := g_f136, c_f123 := g_f123, c_f134 := g_f134 }
theorem g_f127 : G_f127 Ev := { is := is_W rfl, c_f128 := g_f128, c_f123 := g_f123 }
theorem g_f131 : G_f131 Ev := { is := is_W rfl, c_f122 := g_f122, c_f132 := g_f132, c_f127 := g_f127, c_f136 := g_f136, c_f118 := g_f118 }
theorem g_f110 : G_f110 Ev := { is := is_W rfl }
theorem g_f106 : G_f106 Ev := { is := is_W rfl, c_f110 := g_f110 }
theorem g_f36 : G_f36 Ev := { is := is_W rfl }
theorem g_f37 : G_f37 Ev := { is := is_W rfl, c_f36 := g_f36 }
theorem g_f40 : G_f40 Ev := { is := is_W rfl, c_f36 := g_f36 }
theorem g_f22 : G_f22 Ev := { is := is_W rfl, c_f36 := g_f36, c_f37 := g_f37, c_f40 := g_f40 }
theorem g_f15 : G_f15 Ev := { is := is_W rfl, c_f22 := g_f22 }
theorem g_f20 : G_f20 Ev := { is := is_W rfl, c_f15 := g_f15 }
theorem g_f19 : G_f19 Ev := { is := is_W rfl, c_f106 := g_f106, c_f20 := g_f20 }
theorem g_f38 : G_f38 Ev := { is := is_W rfl, c_f36 := g_f36 }
theorem g_f3 : G_f3 Ev := { is := is_W rfl, c_f38 := g_f38, c_f37 := g_f37 }
theorem g_f4 : G_f4 Ev := { is := is_W rfl, c_f37 := g_f37 }
theorem g_f29 : G_f29 Ev := { is := is_W rfl }
theorem g_f14 : G_f14 Ev := { is := is_W rfl, c_f36 := g_f36 }
theorem g_f1 : G_f1 Ev := { is := is_W rfl }
theorem g_f2 : G_f2 Ev := { is := is_W rfl }
theorem g_f0 : G_f0 Ev := { is := is_W rfl, c_f2 := g_f2 }
theorem g_f35 : G_f35 Ev := { is := is_W rfl, c_f1 := g_f1, c_f0 := g_f0 }
theorem g_f33 : G_f33 Ev := { is := is_W rfl, c_f36 := g_f36, c_f38 := g_f38, c_f35 := g_f35 }
theorem g_f34 : G_f34 Ev := { is := is_W rfl, c_f38 := g_f38, c_f40 := g_f40 }
theorem g_f39 : G_f39 Ev := { is := is_W rfl, c_f36 := g_f36 }
theorem g_f21 : G_f21 Ev := { is := is_W rfl, c_f36 := g_f36, c_f37 := g_f37, c_f14 := g_f14, c_f33 := g_f33, c_f34 := g_f34, c_f39 := g_f39 }
theorem g_f111 : G_f111 Ev := { is := is_W rfl }
theorem g_f109 : G_f109 Ev := { is := is_W rfl, c_f111 := g_f111 }
theorem g_f112 : G_f112 Ev := { is := is_W rfl }
theorem g_f13 : G_f13 Ev := { is := is_W rfl }
theorem g_f12 : G_f12 Ev := { is := is_W rfl, c_f112 := g_f112, c_f13 := g_f13 }
theorem g_f28 : G_f28 Ev := { is := is_W rfl, c_f12 := g_f12 }
theorem g_f31 : G_f31 Ev := { is := is_W rfl, c_f28 := g_f28 }
theorem g_f30 : G_f30 Ev := { is := is_W rfl, c_f109 := g_f109, c_f31 := g_f31 }
theorem g_f5 : G_f5 Ev := { is := is_W rfl, c_f21 := g_f21, c_f30 := g_f30 }
theorem g_f113 : G_f113 Ev := { is := is_W rfl }
theorem g_f107 : G_f107 Ev := { is := is_W rfl, c_f113 := g_f113 }
theorem g_f114 : G_f114 Ev := { is := is_W rfl }
theorem g_f11 : G_f11 Ev := { is := is_W rfl }
theorem g_f10 : G_f10 Ev := { is := is_W rfl, c_f114 := g_f114, c_f11 := g_f11 }
theorem g_f7 : G_f7 Ev := { is := is_W rfl, c_f10 := g_f10 }
theorem g_f17 : G_f17 Ev := { is := is_W rfl, c_f7 := g_f7 }
theorem g_f115 : G_f115 Ev := { is := is_W rfl }
theorem g_f108 : G_f108 Ev := { is := is_W rfl, c_f115 := g_f115 }
theorem g_f18 : G_f18 Ev := { is := is_W rfl, c_f7 := g_f7 }
theorem g_f16 : G_f16 Ev := { is := is_W rfl, c_f19 := g_f19, c_f3 := g_f3, c_f4 := g_f4, c_f36 := g_f36, c_f29 := g_f29, c_f5 := g_f5, c_f107 := g_f107, c_f17 := g_f17, c_f108 := g_f108, c_f18 := g_f18 }
theorem g_f32 : G_f32 Ev := { is := is_W rfl, c_f28 := g_f28 }
theorem g_f9 : G_f9 Ev := { is := is_W rfl, c_f32 := g_f32 }
theorem g_f6 : G_f6 Ev := { is := is_W rfl, c_f9 := g_f9 }
theorem g_f8 : G_f8 Ev := { is := is_W rfl, c_f6 := g_f6 }
theorem g_f43 : G_f43 Ev := { is := is_W rfl }
theorem g_f25 : G_f25 Ev := { is := is_W rfl, c_f19 := g_f19, c_f38 := g_f38, c_f43 := g_f43 }
theorem g_f23 : G_f23 Ev := { is := is_W rfl, c_f25 := g_f25 }
theorem g_f41 : G_f41 Ev := { is := is_W rfl, c_f23 := g_f23, c_f37 := g_f37 }
theorem g_f26 : G_f26 Ev := { is := is_W rfl, c_f16 := g_f16, c_f8 := g_f8, c_f10 := g_f10, c_f41 := g_f41 }
theorem g_f46 : G_f46 Ev := { is := is_W rfl, c_f50 := g_f50, c_f60 := g_f60 }
theorem g_f62 : G_f62 Ev := { is := is_W rfl }
theorem g_f63 : G_f63 Ev := { is := is_W rfl }
theorem g_f61 : G_f61 Ev := { is := is_W rfl, c_f62 := g_f62, c_f63 := g_f63 }
theorem g_f99 : G_f99 Ev := { is := is_W rfl, c_f95 := g_f95 }
theorem g_f98 : G_f98 Ev := { is := is_W rfl, c_f99 := g_f99 }
theorem g_f90 : G_f90 Ev := { is := is_W rfl, c_f98 := g_f98 }
theorem g_f88 : G_f88 Ev := { is := is_W rfl, c_f86 := g_f86 }
theorem g_f105 : G_f105 Ev := { is := is_W rfl, c_f103 := g_f103 }
theorem g_f94 : G_f94 Ev := { is := is_W rfl, c_f88 := g_f88, c_f105 := g_f105 }
theorem g_f93 : G_f93 Ev := { is := is_W rfl, c_f94 := g_f94 }
theorem g_f85 : G_f85 Ev := { is := is_W rfl, c_f83 := g_f83 }
theorem g_f102 : G_f102 Ev := { is := is_W rfl, c_f100 := g_f100 }
theorem g_f82 : G_f82 Ev := { is := is_W rfl, c_f90 := g_f90, c_f93 := g_f93, c_f85 := g_f85, c_f102 := g_f102 }
theorem g_f24 : G_f24 Ev := { is := is_W rfl, c_f25 := g_f25 }
theorem g_f42 : G_f42 Ev := { is := is_W rfl, c_f37 := g_f37, c_f24 := g_f24 }
theorem g_f27 : G_f27 Ev := { is := is_W rfl, c_f16 := g_f16, c_f8 := g_f8, c_f10 := g_f10, c_f42 := g_f42 }
theorem g_f68 : G_f68 Ev := { is := is_W rfl }
theorem g_f67 : G_f67 Ev := { is := is_W rfl, c_f68 := g_f68 }
theorem g_f65 : G_f65 Ev := { is := is_W rfl }
theorem g_f70 : G_f70 Ev := { is := is_W rfl }
theorem g_f66 : G_f66 Ev := { is := is_W rfl, c_f65 := g_f65, c_f70 := g_f70 }
theorem g_f64 : G_f64 Ev := { is := is_W rfl }
theorem g_f69 : G_f69 Ev := { is := is_W rfl }
theorem g_f44 : G_f44 Ev := { is := is_W rfl, c_f71 := g_f71, c_f81 := g_f81, c_f45 := g_f45, c_f131 := g_f131, c_f26 := g_f26, c_f46 := g_f46, c_f61 := g_f61, c_f82 := g_f82, c_f27 := g_f27, c_f67 := g_f67, c_f65 := g_f65, c_f70 := g_f70, c_f66 := g_f66, c_f64 := g_f64, c_f69 := g_f69 }
end Go.Proofs.YtmdnjglkdddaeaaGreat.Am.FnExactSafeEntry
