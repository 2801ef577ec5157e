import Derived.Test.YtmdnjglkdddaeaaGreatChecked
import Derived.KernelRfl
import Derived.Test.YtmdnjglkdddaeaaGreatAmW
import Derived.Test.YtmdnjglkdddaeaaGreatRecordOfF0
import Derived.Test.YtmdnjglkdddaeaaGreatRecordOfF1
import Derived.Test.YtmdnjglkdddaeaaGreatRecordOfF2
import Derived.Test.YtmdnjglkdddaeaaGreatAmCl
namespace Go.Proofs.YtmdnjglkdddaeaaGreat.Am.FnExactRecordOf
open Go Go.Proofs
set_option linter.unusedVariables false
set_option maxRecDepth 100000
def rho (m : Nat) : FuncId := match [(6, 81), (9, 140), (10, 121), (11, 129), (13, 175), (14, 174), (15, 176), (19, 26), (23, 37), (24, 36), (25, 134), (27, 45), (28, 44), (29, 93), (30, 94), (33, 53), (34, 52), (35, 105), (36, 106), (68, 137), (69, 75), (70, 112), (71, 150), (72, 160), (73, 161), (74, 162), (75, 171), (76, 172), (92, 58), (93, 10), (97, 13), (99, 7), (100, 35), (101, 85), (103, 109), (104, 149), (105, 165), (107, 43), (108, 92), (109, 142), (112, 118), (113, 153), (114, 152), (115, 166), (116, 154), (117, 167), (118, 51), (119, 104), (120, 148), (124, 21), (125, 23), (128, 19), (129, 62), (130, 61), (131, 60), (132, 8), (133, 63), (135, 113), (136, 86), (137, 110), (138, 111), (139, 87), (140, 91), (141, 82), (142, 68), (143, 67), (144, 66), (145, 11), (146, 116), (147, 117), (148, 69), (150, 119), (151, 120), (152, 122), (153, 123), (154, 125), (155, 124), (156, 128), (157, 127), (158, 156), (159, 155), (160, 168), (161, 170), (162, 169), (163, 173), (164, 102), (165, 147), (166, 164), (167, 163), (168, 157), (169, 126), (170, 83), (171, 138), (172, 135), (173, 158), (174, 74), (175, 73), (176, 72), (177, 14), (178, 132), (179, 133), (182, 151), (183, 89), (184, 131), (185, 159), (186, 146), (189, 115), (192, 65), (193, 71), (212, 41), (222, 47), (224, 96), (225, 97), (235, 59), (395, 5), (396, 29), (397, 25), (399, 24), (400, 76), (401, 136), (100027, 45), (100028, 44), (100093, 10), (100107, 43), (100108, 92), (100124, 21), (100142, 68), (100143, 67), (100144, 66), (100145, 11), (100222, 47), (100224, 96), (100225, 97), (100397, 25), (100400, 76), (200095, 55), (200121, 54), (200122, 107), (200232, 56), (200316, 79), (200317, 78), (200318, 77)].lookup m with | some f => f | none => 0
theorem Qxx : matchFn Tryz.prog rho 101 2 f77_ac [(4, none)] = true := by kernel_rfl
theorem Qxz : matchFn Tryz.prog rho 100 2 f78_ac [(4, none)] = true := by kernel_rfl
theorem Qxs : matchFn Tryz.prog rho 99 2 f74_ac [(4, none)] = true := by kernel_rfl
theorem Qxq : matchFn Tryz.prog rho 24 2 f73_ac [(4, none)] = true := by kernel_rfl
theorem Qx4 : matchFn Tryz.prog rho 23 2 f80_ac [(4, none)] = true := by kernel_rfl
theorem Qxt : matchFn Tryz.prog rho 132 2 f75_ac [(4, none)] = true := by kernel_rfl
theorem Qxv : matchFn Tryz.prog rho 131 2 f76_ac [(4, none)] = true := by kernel_rfl
theorem Qxo : matchFn Tryz.prog rho 130 2 f72_ac [(4, none)] = true := by kernel_rfl
theorem Qx1 : matchFn Tryz.prog rho 129 2 f79_ac [(4, none)] = true := by kernel_rfl
theorem Qxm : matchFn Tryz.prog rho 128 2 f71_ac [(4, none)] = true := by kernel_rfl
theorem Qyw : matchFn Tryz.prog rho 109 1 f95_ac [(2, some (true, 5))] = true := by kernel_rfl
theorem Qyz : matchFn Tryz.prog rho 108 1 f96_ac [(2, none)] = true := by kernel_rfl
theorem Qy1 : matchFn Tryz.prog rho 107 1 f97_ac [(2, none)] = true := by kernel_rfl
theorem Qyk : matchFn Tryz.prog rho 93 1 f89_ac [(2, some (true, 1))] = true := by kernel_rfl
theorem Qye : matchFn Tryz.prog rho 29 1 f86_ac [(2, some (true, 2))] = true := by kernel_rfl
theorem Qyg : matchFn Tryz.prog rho 28 1 f87_ac [(2, none)] = true := by kernel_rfl
theorem Qr4 : matchFn Tryz.prog rho 30 1 f103_ac [(2, some (true, 2))] = true := by kernel_rfl
theorem Qr7 : matchFn Tryz.prog rho 27 1 f104_ac [(2, none)] = true := by kernel_rfl
theorem Qyp : matchFn Tryz.prog rho 145 1 f91_ac [(2, some (true, 9))] = true := by kernel_rfl
theorem Qyr : matchFn Tryz.prog rho 144 1 f92_ac [(2, none)] = true := by kernel_rfl
theorem Qx9 : matchFn Tryz.prog rho 146 1 f83_ac [(2, some (true, 2))] = true := by kernel_rfl
theorem Qyb : matchFn Tryz.prog rho 143 1 f84_ac [(2, none)] = true := by kernel_rfl
theorem Qrw : matchFn Tryz.prog rho 147 1 f100_ac [(2, some (true, 2))] = true := by kernel_rfl
theorem Qrz : matchFn Tryz.prog rho 142 1 f101_ac [(2, none)] = true := by kernel_rfl
theorem Qx6 : matchFn Tryz.prog rho 124 1 f81_ac [(2, some (true, 6))] = true := by kernel_rfl
theorem Qws : matchFn Tryz.prog rho 120 2 f54_ac [(4, none)] = true := by kernel_rfl
theorem Qwu : matchFn Tryz.prog rho 119 2 f55_ac [(4, none)] = true := by kernel_rfl
theorem Qww : matchFn Tryz.prog rho 118 2 f56_ac [(4, none)] = true := by kernel_rfl
theorem Qwo : matchFn Tryz.prog rho 97 2 f51_ac [(4, none)] = true := by kernel_rfl
theorem Qwk : matchFn Tryz.prog rho 35 2 f49_ac [(4, none)] = true := by kernel_rfl
theorem Qwm : matchFn Tryz.prog rho 34 2 f50_ac [(4, none)] = true := by kernel_rfl
theorem Qw0 : matchFn Tryz.prog rho 36 2 f59_ac [(4, none)] = true := by kernel_rfl
theorem Qw2 : matchFn Tryz.prog rho 33 2 f60_ac [(4, none)] = true := by kernel_rfl
theorem Qwp : matchFn Tryz.prog rho 177 2 f52_ac [(4, none)] = true := by kernel_rfl
theorem Qwr : matchFn Tryz.prog rho 176 2 f53_ac [(4, none)] = true := by kernel_rfl
theorem Qwg : matchFn Tryz.prog rho 178 2 f46_ac [(4, none)] = true := by kernel_rfl
theorem Qwi : matchFn Tryz.prog rho 175 2 f47_ac [(4, none)] = true := by kernel_rfl
theorem Qwx : matchFn Tryz.prog rho 179 2 f57_ac [(4, none)] = true := by kernel_rfl
theorem Qwz : matchFn Tryz.prog rho 174 2 f58_ac [(4, none)] = true := by kernel_rfl
theorem Qwf : matchFn Tryz.prog rho 125 2 f45_ac [(4, none)] = true := by kernel_rfl
theorem Qu1 : matchFn Tryz.prog rho 212 1 f139_ac [(2, some (true, 9))] = true := by kernel_rfl
theorem Qus : matchFn Tryz.prog rho 6 3 f136_ac [(6, none)] = true := by kernel_rfl
theorem Qtq : matchFn Tryz.prog rho 140 2 f121_ac [(4, none)] = true := by kernel_rfl
theorem Qt6 : matchFn Tryz.prog rho 105 1 f128_ac [(2, none)] = true := by kernel_rfl
theorem Qtv : matchFn Tryz.prog rho 104 1 f123_ac [(2, none)] = true := by kernel_rfl
theorem Qt2 : matchFn Tryz.prog rho 103 1 f126_ac [(2, none)] = true := by kernel_rfl
theorem Quy : matchFn Tryz.prog rho 71 2 f138_ac [(4, none)] = true := by kernel_rfl
theorem Qt4 : matchFn Tryz.prog rho 70 1 f127_ac [(2, none)] = true := by kernel_rfl
theorem Quc : matchFn Tryz.prog rho 136 2 f130_ac [(4, none)] = true := by kernel_rfl
theorem Qt9 : matchFn Tryz.prog rho 139 1 f129_ac [(2, none)] = true := by kernel_rfl
theorem Qth : matchFn Tryz.prog rho 137 1 f118_ac [(2, none)] = true := by kernel_rfl
theorem Qtk : matchFn Tryz.prog rho 138 1 f119_ac [(2, none)] = true := by kernel_rfl
theorem Qto : matchFn Tryz.prog rho 141 2 f120_ac [(4, none)] = true := by kernel_rfl
theorem Quq : matchFn Tryz.prog rho 135 2 f135_ac [(4, none)] = true := by kernel_rfl
theorem Qtx : matchFn Tryz.prog rho 133 1 f124_ac [(2, none)] = true := by kernel_rfl
theorem Qui : matchFn Tryz.prog rho 183 2 f132_ac [(4, none)] = true := by kernel_rfl
theorem Quo : matchFn Tryz.prog rho 182 2 f134_ac [(4, none)] = true := by kernel_rfl
theorem Qtt : matchFn Tryz.prog rho 189 2 f122_ac [(4, none)] = true := by kernel_rfl
theorem Qul : matchFn Tryz.prog rho 192 1 f133_ac [(2, none)] = true := by kernel_rfl
theorem Quv : matchFn Tryz.prog rho 25 1 f137_ac [(2, some (true, 9))] = true := by kernel_rfl
theorem Qt0 : matchFn Tryz.prog rho 69 1 f125_ac [(2, none)] = true := by kernel_rfl
theorem Quf : matchFn Tryz.prog rho 399 2 f131_ac [(4, some (true, 6)), (5, none)] = true := by kernel_rfl
theorem Qs0 : matchFn Tryz.prog rho 115 2 f112_ac [(4, none)] = true := by kernel_rfl
theorem Qsn : matchFn Tryz.prog rho 114 2 f108_ac [(4, none)] = true := by kernel_rfl
theorem Qv7 : matchFn Tryz.prog rho 10 3 f39_ac [(6, none)] = true := by kernel_rfl
theorem Qv9 : matchFn Tryz.prog rho 9 1 f40_ac [(2, none)] = true := by kernel_rfl
theorem Qwc : matchFn Tryz.prog rho 76 1 f43_ac [(2, none)] = true := by kernel_rfl
theorem Qvq : matchFn Tryz.prog rho 117 1 f26_ac [(2, none)] = true := by kernel_rfl
theorem Qvc : matchFn Tryz.prog rho 116 1 f18_ac [(2, none)] = true := by kernel_rfl
theorem Qvn : matchFn Tryz.prog rho 113 1 f24_ac [(2, none)] = true := by kernel_rfl
theorem Qvl : matchFn Tryz.prog rho 112 1 f23_ac [(2, none)] = true := by kernel_rfl
theorem Qwa : matchFn Tryz.prog rho 11 1 f41_ac [(2, none)] = true := by kernel_rfl
theorem Qv8 : matchFn Tryz.prog rho 150 1 f3_ac [(2, none)] = true := by kernel_rfl
theorem Qwl : matchFn Tryz.prog rho 151 1 f4_ac [(2, none)] = true := by kernel_rfl
theorem Qvx : matchFn Tryz.prog rho 152 1 f30_ac [(2, none)] = true := by kernel_rfl
theorem Qva : matchFn Tryz.prog rho 72 1 f17_ac [(2, none)] = true := by kernel_rfl
theorem Qve : matchFn Tryz.prog rho 14 1 f1_ac [(2, none)] = true := by kernel_rfl
theorem Qvw : matchFn Tryz.prog rho 15 1 f2_ac [(2, none)] = true := by kernel_rfl
theorem Qru : matchFn Tryz.prog rho 13 2 f0_ac [(4, none)] = true := by kernel_rfl
theorem Qv6 : matchFn Tryz.prog rho 75 2 f38_ac [(4, none)] = true := by kernel_rfl
theorem Qv3 : matchFn Tryz.prog rho 73 1 f36_ac [(2, none)] = true := by kernel_rfl
theorem Qv4 : matchFn Tryz.prog rho 74 1 f37_ac [(2, none)] = true := by kernel_rfl
theorem Qwb : matchFn Tryz.prog rho 160 1 f42_ac [(2, none)] = true := by kernel_rfl
theorem Qvp : matchFn Tryz.prog rho 159 1 f25_ac [(2, none)] = true := by kernel_rfl
theorem Qs3 : matchFn Tryz.prog rho 163 2 f113_ac [(4, none)] = true := by kernel_rfl
theorem Qsx : matchFn Tryz.prog rho 162 2 f111_ac [(4, none)] = true := by kernel_rfl
theorem Qs6 : matchFn Tryz.prog rho 167 2 f114_ac [(4, none)] = true := by kernel_rfl
theorem Qu9 : matchFn Tryz.prog rho 166 2 f16_ac [(3, none)] = true := by kernel_rfl
theorem Qu7 : matchFn Tryz.prog rho 165 2 f15_ac [(4, none)] = true := by kernel_rfl
theorem Qvv : matchFn Tryz.prog rho 164 2 f29_ac [(4, none)] = true := by kernel_rfl
theorem Qvz : matchFn Tryz.prog rho 161 2 f32_ac [(3, none)] = true := by kernel_rfl
theorem Qvy : matchFn Tryz.prog rho 158 2 f31_ac [(4, none)] = true := by kernel_rfl
theorem Qw1 : matchFn Tryz.prog rho 153 1 f5_ac [(2, none)] = true := by kernel_rfl
theorem Qs9 : matchFn Tryz.prog rho 168 2 f115_ac [(4, none)] = true := by kernel_rfl
theorem Qsq : matchFn Tryz.prog rho 155 2 f109_ac [(4, none)] = true := by kernel_rfl
theorem Qtb : matchFn Tryz.prog rho 172 2 f116_ac [(4, none)] = true := by kernel_rfl
theorem Qu5 : matchFn Tryz.prog rho 171 2 f14_ac [(3, none)] = true := by kernel_rfl
theorem Qu3 : matchFn Tryz.prog rho 170 2 f13_ac [(4, none)] = true := by kernel_rfl
theorem Qx2 : matchFn Tryz.prog rho 169 2 f7_ac [(4, none)] = true := by kernel_rfl
theorem Qvg : matchFn Tryz.prog rho 154 2 f20_ac [(3, none)] = true := by kernel_rfl
theorem Qte : matchFn Tryz.prog rho 173 2 f117_ac [(4, none)] = true := by kernel_rfl
theorem Qsu : matchFn Tryz.prog rho 157 2 f110_ac [(4, none)] = true := by kernel_rfl
theorem Qvi : matchFn Tryz.prog rho 156 2 f21_ac [(3, none)] = true := by kernel_rfl
theorem Qvd : matchFn Tryz.prog rho 148 1 f19_ac [(2, none)] = true := by kernel_rfl
theorem Qv1 : matchFn Tryz.prog rho 222 1 f34_ac [(2, some (true, 9))] = true := by kernel_rfl
theorem Qv0 : matchFn Tryz.prog rho 186 2 f33_ac [(4, none)] = true := by kernel_rfl
theorem Qua : matchFn Tryz.prog rho 185 3 f12_ac [(6, none)] = true := by kernel_rfl
theorem Qxj : matchFn Tryz.prog rho 184 2 f6_ac [(4, none)] = true := by kernel_rfl
theorem Qtl : matchFn Tryz.prog rho 193 1 f11_ac [(2, none)] = true := by kernel_rfl
theorem Qy5 : matchFn Tryz.prog rho 401 2 f9_ac [(3, none)] = true := by kernel_rfl
theorem Qvj : matchFn Tryz.prog rho 68 1 f22_ac [(2, none)] = true := by kernel_rfl
theorem Qyl : matchFn Tryz.prog rho 400 2 f8_ac [(4, some (true, 6)), (5, none)] = true := by kernel_rfl
theorem Qvs : matchFn Tryz.prog rho 397 2 f27_ac [(4, some (true, 6)), (5, none)] = true := by kernel_rfl
theorem Qwj : matchFn Tryz.prog rho 19 2 f48_ac [(4, none)] = true := by kernel_rfl
theorem Qw5 : matchFn Tryz.prog rho 92 2 f62_ac [(4, none)] = true := by kernel_rfl
theorem Qw7 : matchFn Tryz.prog rho 235 2 f63_ac [(4, none)] = true := by kernel_rfl
theorem Qw3 : matchFn Tryz.prog rho 396 2 f61_ac [(4, none)] = true := by kernel_rfl
theorem Qy4 : matchFn Tryz.prog rho 100108 1 f99_ac [(2, none)] = true := by kernel_rfl
theorem Qy3 : matchFn Tryz.prog rho 100107 1 f98_ac [(2, none)] = true := by kernel_rfl
theorem Qyn : matchFn Tryz.prog rho 100093 1 f90_ac [(2, some (true, 1))] = true := by kernel_rfl
theorem Qyi : matchFn Tryz.prog rho 100028 1 f88_ac [(2, none)] = true := by kernel_rfl
theorem Qsa : matchFn Tryz.prog rho 100027 1 f105_ac [(2, none)] = true := by kernel_rfl
theorem Qyv : matchFn Tryz.prog rho 100145 1 f94_ac [(2, some (true, 9))] = true := by kernel_rfl
theorem Qyt : matchFn Tryz.prog rho 100144 1 f93_ac [(2, none)] = true := by kernel_rfl
theorem Qyd : matchFn Tryz.prog rho 100143 1 f85_ac [(2, none)] = true := by kernel_rfl
theorem Qr2 : matchFn Tryz.prog rho 100142 1 f102_ac [(2, none)] = true := by kernel_rfl
theorem Qx8 : matchFn Tryz.prog rho 100124 1 f82_ac [(2, some (true, 6))] = true := by kernel_rfl
theorem Qv2 : matchFn Tryz.prog rho 100222 1 f35_ac [(2, some (true, 9))] = true := by kernel_rfl
theorem Qsr : matchFn Tryz.prog rho 100400 2 f10_ac [(4, some (true, 6)), (5, none)] = true := by kernel_rfl
theorem Qvu : matchFn Tryz.prog rho 100397 2 f28_ac [(4, some (true, 6)), (5, none)] = true := by kernel_rfl
theorem Qxg : matchFn Tryz.prog rho 200122 2 f68_ac [(4, none)] = true := by kernel_rfl
theorem Qxe : matchFn Tryz.prog rho 200121 2 f67_ac [(4, none)] = true := by kernel_rfl
theorem Qxa : matchFn Tryz.prog rho 200095 2 f65_ac [(4, none)] = true := by kernel_rfl
theorem Qxk : matchFn Tryz.prog rho 200232 2 f70_ac [(4, none)] = true := by kernel_rfl
theorem Qxc : matchFn Tryz.prog rho 200318 2 f66_ac [(4, none)] = true := by kernel_rfl
theorem Qw9 : matchFn Tryz.prog rho 200317 2 f64_ac [(4, none)] = true := by kernel_rfl
theorem Qxi : matchFn Tryz.prog rho 200316 2 f69_ac [(4, none)] = true := by kernel_rfl
theorem Qwd : matchFn Tryz.prog rho 395 2 f44_ac [(4, none)] = true := by kernel_rfl
def tbl : List (Nat × Fn) := [(101, ⟨2, f77_ac, [(4, none)]⟩),
  (100, ⟨2, f78_ac, [(4, none)]⟩),
  (99, ⟨2, f74_ac, [(4, none)]⟩),
  (24, ⟨2, f73_ac, [(4, none)]⟩),
  (23, ⟨2, f80_ac, [(4, none)]⟩),
  (132, ⟨2, f75_ac, [(4, none)]⟩),
  (131, ⟨2, f76_ac, [(4, none)]⟩),
  (130, ⟨2, f72_ac, [(4, none)]⟩),
  (129, ⟨2, f79_ac, [(4, none)]⟩),
  (128, ⟨2, f71_ac, [(4, none)]⟩),
  (109, ⟨1, f95_ac, [(2, some (true, 5))]⟩),
  (108, ⟨1, f96_ac, [(2, none)]⟩),
  (107, ⟨1, f97_ac, [(2, none)]⟩),
  (93, ⟨1, f89_ac, [(2, some (true, 1))]⟩),
  (29, ⟨1, f86_ac, [(2, some (true, 2))]⟩),
  (28, ⟨1, f87_ac, [(2, none)]⟩),
  (30, ⟨1, f103_ac, [(2, some (true, 2))]⟩),
  (27, ⟨1, f104_ac, [(2, none)]⟩),
  (145, ⟨1, f91_ac, [(2, some (true, 9))]⟩),
  (144, ⟨1, f92_ac, [(2, none)]⟩),
  (146, ⟨1, f83_ac, [(2, some (true, 2))]⟩),
  (143, ⟨1, f84_ac, [(2, none)]⟩),
  (147, ⟨1, f100_ac, [(2, some (true, 2))]⟩),
  (142, ⟨1, f101_ac, [(2, none)]⟩),
  (124, ⟨1, f81_ac, [(2, some (true, 6))]⟩),
  (120, ⟨2, f54_ac, [(4, none)]⟩),
  (119, ⟨2, f55_ac, [(4, none)]⟩),
  (118, ⟨2, f56_ac, [(4, none)]⟩),
  (97, ⟨2, f51_ac, [(4, none)]⟩),
  (35, ⟨2, f49_ac, [(4, none)]⟩),
  (34, ⟨2, f50_ac, [(4, none)]⟩),
  (36, ⟨2, f59_ac, [(4, none)]⟩),
  (33, ⟨2, f60_ac, [(4, none)]⟩),
  (177, ⟨2, f52_ac, [(4, none)]⟩),
  (176, ⟨2, f53_ac, [(4, none)]⟩),
  (178, ⟨2, f46_ac, [(4, none)]⟩),
  (175, ⟨2, f47_ac, [(4, none)]⟩),
  (179, ⟨2, f57_ac, [(4, none)]⟩),
  (174, ⟨2, f58_ac, [(4, none)]⟩),
  (125, ⟨2, f45_ac, [(4, none)]⟩),
  (212, ⟨1, f139_ac, [(2, some (true, 9))]⟩),
  (6, ⟨3, f136_ac, [(6, none)]⟩),
  (140, ⟨2, f121_ac, [(4, none)]⟩),
  (105, ⟨1, f128_ac, [(2, none)]⟩),
  (104, ⟨1, f123_ac, [(2, none)]⟩),
  (103, ⟨1, f126_ac, [(2, none)]⟩),
  (71, ⟨2, f138_ac, [(4, none)]⟩),
  (70, ⟨1, f127_ac, [(2, none)]⟩),
  (136, ⟨2, f130_ac, [(4, none)]⟩),
  (139, ⟨1, f129_ac, [(2, none)]⟩),
  (137, ⟨1, f118_ac, [(2, none)]⟩),
  (138, ⟨1, f119_ac, [(2, none)]⟩),
  (141, ⟨2, f120_ac, [(4, none)]⟩),
  (135, ⟨2, f135_ac, [(4, none)]⟩),
  (133, ⟨1, f124_ac, [(2, none)]⟩),
  (183, ⟨2, f132_ac, [(4, none)]⟩),
  (182, ⟨2, f134_ac, [(4, none)]⟩),
  (189, ⟨2, f122_ac, [(4, none)]⟩),
  (192, ⟨1, f133_ac, [(2, none)]⟩),
  (25, ⟨1, f137_ac, [(2, some (true, 9))]⟩),
  (69, ⟨1, f125_ac, [(2, none)]⟩),
  (399, ⟨2, f131_ac, [(4, some (true, 6)), (5, none)]⟩),
  (115, ⟨2, f112_ac, [(4, none)]⟩),
  (114, ⟨2, f108_ac, [(4, none)]⟩),
  (10, ⟨3, f39_ac, [(6, none)]⟩),
  (9, ⟨1, f40_ac, [(2, none)]⟩),
  (76, ⟨1, f43_ac, [(2, none)]⟩),
  (117, ⟨1, f26_ac, [(2, none)]⟩),
  (116, ⟨1, f18_ac, [(2, none)]⟩),
  (113, ⟨1, f24_ac, [(2, none)]⟩),
  (112, ⟨1, f23_ac, [(2, none)]⟩),
  (11, ⟨1, f41_ac, [(2, none)]⟩),
  (150, ⟨1, f3_ac, [(2, none)]⟩),
  (151, ⟨1, f4_ac, [(2, none)]⟩),
  (152, ⟨1, f30_ac, [(2, none)]⟩),
  (72, ⟨1, f17_ac, [(2, none)]⟩),
  (14, ⟨1, f1_ac, [(2, none)]⟩),
  (15, ⟨1, f2_ac, [(2, none)]⟩),
  (13, ⟨2, f0_ac, [(4, none)]⟩),
  (75, ⟨2, f38_ac, [(4, none)]⟩),
  (73, ⟨1, f36_ac, [(2, none)]⟩),
  (74, ⟨1, f37_ac, [(2, none)]⟩),
  (160, ⟨1, f42_ac, [(2, none)]⟩),
  (159, ⟨1, f25_ac, [(2, none)]⟩),
  (163, ⟨2, f113_ac, [(4, none)]⟩),
  (162, ⟨2, f111_ac, [(4, none)]⟩),
  (167, ⟨2, f114_ac, [(4, none)]⟩),
  (166, ⟨2, f16_ac, [(3, none)]⟩),
  (165, ⟨2, f15_ac, [(4, none)]⟩),
  (164, ⟨2, f29_ac, [(4, none)]⟩),
  (161, ⟨2, f32_ac, [(3, none)]⟩),
  (158, ⟨2, f31_ac, [(4, none)]⟩),
  (153, ⟨1, f5_ac, [(2, none)]⟩),
  (168, ⟨2, f115_ac, [(4, none)]⟩),
  (155, ⟨2, f109_ac, [(4, none)]⟩),
  (172, ⟨2, f116_ac, [(4, none)]⟩),
  (171, ⟨2, f14_ac, [(3, none)]⟩),
  (170, ⟨2, f13_ac, [(4, none)]⟩),
  (169, ⟨2, f7_ac, [(4, none)]⟩),
  (154, ⟨2, f20_ac, [(3, none)]⟩),
  (173, ⟨2, f117_ac, [(4, none)]⟩),
  (157, ⟨2, f110_ac, [(4, none)]⟩),
  (156, ⟨2, f21_ac, [(3, none)]⟩),
  (148, ⟨1, f19_ac, [(2, none)]⟩),
  (222, ⟨1, f34_ac, [(2, some (true, 9))]⟩),
  (186, ⟨2, f33_ac, [(4, none)]⟩),
  (185, ⟨3, f12_ac, [(6, none)]⟩),
  (184, ⟨2, f6_ac, [(4, none)]⟩),
  (193, ⟨1, f11_ac, [(2, none)]⟩),
  (401, ⟨2, f9_ac, [(3, none)]⟩),
  (68, ⟨1, f22_ac, [(2, none)]⟩),
  (400, ⟨2, f8_ac, [(4, some (true, 6)), (5, none)]⟩),
  (397, ⟨2, f27_ac, [(4, some (true, 6)), (5, none)]⟩),
  (19, ⟨2, f48_ac, [(4, none)]⟩),
  (92, ⟨2, f62_ac, [(4, none)]⟩),
  (235, ⟨2, f63_ac, [(4, none)]⟩),
  (396, ⟨2, f61_ac, [(4, none)]⟩),
  (100108, ⟨1, f99_ac, [(2, none)]⟩),
  (100107, ⟨1, f98_ac, [(2, none)]⟩),
  (100093, ⟨1, f90_ac, [(2, some (true, 1))]⟩),
  (100028, ⟨1, f88_ac, [(2, none)]⟩),
  (100027, ⟨1, f105_ac, [(2, none)]⟩),
  (100145, ⟨1, f94_ac, [(2, some (true, 9))]⟩),
  (100144, ⟨1, f93_ac, [(2, none)]⟩),
  (100143, ⟨1, f85_ac, [(2, none)]⟩),
  (100142, ⟨1, f102_ac, [(2, none)]⟩),
  (100124, ⟨1, f82_ac, [(2, some (true, 6))]⟩),
  (100222, ⟨1, f35_ac, [(2, some (true, 9))]⟩),
  (100400, ⟨2, f10_ac, [(4, some (true, 6)), (5, none)]⟩),
  (100397, ⟨2, f28_ac, [(4, some (true, 6)), (5, none)]⟩),
  (200122, ⟨2, f68_ac, [(4, none)]⟩),
  (200121, ⟨2, f67_ac, [(4, none)]⟩),
  (200095, ⟨2, f65_ac, [(4, none)]⟩),
  (200232, ⟨2, f70_ac, [(4, none)]⟩),
  (200318, ⟨2, f66_ac, [(4, none)]⟩),
  (200317, ⟨2, f64_ac, [(4, none)]⟩),
  (200316, ⟨2, f69_ac, [(4, none)]⟩),
  (395, ⟨2, f44_ac, [(4, none)]⟩)]
theorem Qaek : AllMatch Tryz.prog rho tbl := ⟨Qxx, Qxz, Qxs, Qxq, Qx4, Qxt, Qxv, Qxo, Qx1, Qxm, Qyw, Qyz, Qy1, Qyk, Qye, Qyg, Qr4, Qr7, Qyp, Qyr, Qx9, Qyb, Qrw, Qrz, Qx6, Qws, Qwu, Qww, Qwo, Qwk, Qwm, Qw0, Qw2, Qwp, Qwr, Qwg, Qwi, Qwx, Qwz, Qwf, Qu1, Qus, Qtq, Qt6, Qtv, Qt2, Quy, Qt4, Quc, Qt9, Qth, Qtk, Qto, Quq, Qtx, Qui, Quo, Qtt, Qul, Quv, Qt0, Quf, Qs0, Qsn, Qv7, Qv9, Qwc, Qvq, Qvc, Qvn, Qvl, Qwa, Qv8, Qwl, Qvx, Qva, Qve, Qvw, Qru, Qv6, Qv3, Qv4, Qwb, Qvp, Qs3, Qsx, Qs6, Qu9, Qu7, Qvv, Qvz, Qvy, Qw1, Qs9, Qsq, Qtb, Qu5, Qu3, Qx2, Qvg, Qte, Qsu, Qvi, Qvd, Qv1, Qv0, Qua, Qxj, Qtl, Qy5, Qvj, Qyl, Qvs, Qwj, Qw5, Qw7, Qw3, Qy4, Qy3, Qyn, Qyi, Qsa, Qyv, Qyt, Qyd, Qr2, Qx8, Qv2, Qsr, Qvu, Qxg, Qxe, Qxa, Qxk, Qxc, Qw9, Qxi, Qwd, trivial⟩
theorem Qse : matchFn Tryz.prog rho 224 1 f106_ac [(2, none)] = true := by kernel_rfl
theorem Qsd : matchFn Tryz.prog rho (100000 + 224) 1 f106_ac [(2, none)] = true := by kernel_rfl
theorem Qsj : matchFn Tryz.prog rho 225 1 f107_ac [(2, none)] = true := by kernel_rfl
theorem Qsi : matchFn Tryz.prog rho (100000 + 225) 1 f107_ac [(2, none)] = true := by kernel_rfl
def ctbl : List (Nat × Nat × Nat × AC) := [(224, 2, 16, f106_ac), (225, 2, 16, f107_ac)]
theorem Qra : CloneAll Tryz.prog rho ctbl := ⟨by decide, Qse, Qsd, Qsf, by decide, Qsj, Qsi, Qsk, trivial⟩
noncomputable abbrev Ev : Env := EnvW (cloneE ctbl) (look tbl)
theorem good : Good Tryz.prog rho Ev := Qaae (Qqj Qaek) (by kernel_rfl) (Qaaf (by kernel_rfl) Qra)
theorem Qnb : IsClone Ev 224 2 16 := Qnw (by decide) rfl rfl rfl
theorem Qnc : IsClone Ev 225 2 16 := Qnw (by decide) rfl rfl rfl
theorem g_f77 : G_f77 Ev := { is := is_W rfl }
theorem g_f78 : G_f78 Ev := { is := is_W rfl, c_f77 := g_f77 }
theorem g_f74 : G_f74 Ev := { is := is_W rfl, c_f78 := g_f78 }
theorem g_f73 : G_f73 Ev := { is := is_W rfl }
theorem g_f80 : G_f80 Ev := { is := is_W rfl }
theorem g_f75 : G_f75 Ev := { is := is_W rfl, c_f73 := g_f73, c_f80 := g_f80 }
theorem g_f76 : G_f76 Ev := { is := is_W rfl, c_f75 := g_f75 }
theorem g_f72 : G_f72 Ev := { is := is_W rfl }
theorem g_f79 : G_f79 Ev := { is := is_W rfl }
theorem g_f71 : G_f71 Ev := { is := is_W rfl, c_f74 := g_f74, c_f76 := g_f76, c_f72 := g_f72, c_f79 := g_f79 }
theorem g_f95 : G_f95 Ev := { is := is_W rfl }
theorem g_f96 : G_f96 Ev := { is := is_W rfl, c_f95 := g_f95 }
theorem g_f97 : G_f97 Ev := { is := is_W rfl, c_f96 := g_f96 }
theorem g_f89 : G_f89 Ev := { is := is_W rfl, c_f97 := g_f97 }
theorem g_f86 : G_f86 Ev := { is := is_W rfl }
theorem g_f87 : G_f87 Ev := { is := is_W rfl, c_f86 := g_f86 }
theorem Qna : G_f103 Ev := { is := is_W rfl }
theorem Qzl : G_f104 Ev := { is := is_W rfl, c_f103 := Qna }
theorem g_f91 : G_f91 Ev := { is := is_W rfl, c_f87 := g_f87, c_f104 := Qzl }
theorem g_f92 : G_f92 Ev := { is := is_W rfl, c_f91 := g_f91 }
theorem g_f83 : G_f83 Ev := { is := is_W rfl }
theorem g_f84 : G_f84 Ev := { is := is_W rfl, c_f83 := g_f83 }
theorem Qm9 : G_f100 Ev := { is := is_W rfl }
theorem Qzj : G_f101 Ev := { is := is_W rfl, c_f100 := Qm9 }
theorem g_f81 : G_f81 Ev := { is := is_W rfl, c_f89 := g_f89, c_f92 := g_f92, c_f84 := g_f84, c_f101 := Qzj }
theorem g_f54 : G_f54 Ev := { is := is_W rfl }
theorem g_f55 : G_f55 Ev := { is := is_W rfl, c_f54 := g_f54 }
theorem g_f56 : G_f56 Ev := { is := is_W rfl, c_f55 := g_f55 }
theorem g_f51 : G_f51 Ev := { is := is_W rfl, c_f56 := g_f56 }
theorem g_f49 : G_f49 Ev := { is := is_W rfl }
theorem g_f50 : G_f50 Ev := { is := is_W rfl, c_f49 := g_f49 }
theorem g_f59 : G_f59 Ev := { is := is_W rfl }
theorem g_f60 : G_f60 Ev := { is := is_W rfl, c_f59 := g_f59 }
theorem g_f52 : G_f52 Ev := { is := is_W rfl, c_f50 := g_f50, c_f60 := g_f60 }
theorem g_f53 : G_f53 Ev := { is := is_W rfl, c_f52 := g_f52 }
theorem g_f46 : G_f46 Ev := { is := is_W rfl }
theorem g_f47 : G_f47 Ev := { is := is_W rfl, c_f46 := g_f46 }
theorem g_f57 : G_f57 Ev := { is := is_W rfl }
theorem g_f58 : G_f58 Ev := { is := is_W rfl, c_f57 := g_f57 }
theorem g_f45 : G_f45 Ev := { is := is_W rfl, c_f51 := g_f51, c_f53 := g_f53, c_f47 := g_f47, c_f58 := g_f58 }
theorem Qaab : G_f139 Ev := { is := is_W rfl }
theorem Qbk : G_f136 Ev := { is := is_W rfl }
theorem Qnd : G_f121 Ev := { is := is_W rfl }
theorem Qz2 : G_f128 Ev := { is := is_W rfl, c_f136 := Qbk }
theorem Qz0 : G_f123 Ev := { is := is_W rfl, c_f128 := Qz2 }
theorem Qf4 : G_f126 Ev := { is := is_W rfl, c_f123 := Qz0 }
theorem Qaaa : G_f138 Ev := { is := is_W rfl }
theorem Qf5 : G_f127 Ev := { is := is_W rfl, c_f136 := Qbk, c_f138 := Qaaa }
theorem Qne : G_f130 Ev := { is := is_W rfl, c_f121 := Qnd, c_f126 := Qf4, c_f127 := Qf5 }
theorem Qz3 : G_f129 Ev := { is := is_W rfl, c_f126 := Qf4 }
theorem Qzw : G_f118 Ev := { is := is_W rfl, c_f136 := Qbk }
theorem Qzx : G_f119 Ev := { is := is_W rfl, c_f136 := Qbk }
theorem Qzy : G_f120 Ev := { is := is_W rfl }
theorem Qz8 : G_f135 Ev := { is := is_W rfl, c_f120 := Qzy }
theorem Qel : G_f124 Ev := { is := is_W rfl, c_f136 := Qbk, c_f130 := Qne, c_f129 := Qz3, c_f126 := Qf4, c_f118 := Qzw, c_f119 := Qzx, c_f127 := Qf5, c_f135 := Qz8 }
theorem Qz5 : G_f132 Ev := { is := is_W rfl, c_f130 := Qne, c_f121 := Qnd }
theorem Qz7 : G_f134 Ev := { is := is_W rfl, c_f124 := Qel, c_f136 := Qbk, c_f132 := Qz5 }
theorem Qzz : G_f122 Ev := { is := is_W rfl, c_f124 := Qel, c_f136 := Qbk, c_f134 := Qz7 }
theorem Qz6 : G_f133 Ev := { is := is_W rfl, c_f124 := Qel, c_f122 := Qzz }
theorem Qz9 : G_f137 Ev := { is := is_W rfl }
theorem Qz1 : G_f125 Ev := { is := is_W rfl, c_f136 := Qbk, c_f127 := Qf5, c_f137 := Qz9 }
theorem Qz4 : G_f131 Ev := { is := is_W rfl, c_f139 := Qaab, c_f124 := Qel, c_f133 := Qz6, c_f125 := Qz1 }
theorem Qzr : G_f112 Ev := { is := is_W rfl }
theorem Qzn : G_f108 Ev := { is := is_W rfl, c_f112 := Qzr }
theorem g_f39 : G_f39 Ev := { is := is_W rfl }
theorem g_f40 : G_f40 Ev := { is := is_W rfl, c_f39 := g_f39 }
theorem g_f43 : G_f43 Ev := { is := is_W rfl, c_f39 := g_f39 }
theorem g_f26 : G_f26 Ev := { is := is_W rfl, c_f39 := g_f39, c_f40 := g_f40, c_f43 := g_f43 }
theorem g_f18 : G_f18 Ev := { is := is_W rfl, c_f26 := g_f26 }
theorem g_f24 : G_f24 Ev := { is := is_W rfl, c_f18 := g_f18 }
theorem g_f23 : G_f23 Ev := { is := is_W rfl, c_f108 := Qzn, c_f24 := g_f24 }
theorem g_f41 : G_f41 Ev := { is := is_W rfl, c_f39 := g_f39 }
theorem g_f3 : G_f3 Ev := { is := is_W rfl, c_f41 := g_f41, c_f40 := g_f40 }
theorem g_f4 : G_f4 Ev := { is := is_W rfl, c_f40 := g_f40 }
theorem g_f30 : G_f30 Ev := { is := is_W rfl }
theorem g_f17 : G_f17 Ev := { is := is_W rfl, c_f39 := g_f39 }
theorem g_f1 : G_f1 Ev := { is := is_W rfl }
theorem g_f2 : G_f2 Ev := { is := is_W rfl }
theorem g_f0 : G_f0 Ev := { is := is_W rfl, c_f2 := g_f2 }
theorem g_f38 : G_f38 Ev := { is := is_W rfl, c_f1 := g_f1, c_f0 := g_f0 }
theorem g_f36 : G_f36 Ev := { is := is_W rfl, c_f39 := g_f39, c_f41 := g_f41, c_f38 := g_f38 }
theorem g_f37 : G_f37 Ev := { is := is_W rfl, c_f41 := g_f41, c_f43 := g_f43 }
theorem g_f42 : G_f42 Ev := { is := is_W rfl, c_f39 := g_f39 }
theorem g_f25 : G_f25 Ev := { is := is_W rfl, c_f39 := g_f39, c_f40 := g_f40, c_f17 := g_f17, c_f36 := g_f36, c_f37 := g_f37, c_f42 := g_f42 }
theorem Qzs : G_f113 Ev := { is := is_W rfl }
theorem Qzq : G_f111 Ev := { is := is_W rfl, c_f113 := Qzs }
theorem Qzt : G_f114 Ev := { is := is_W rfl }
theorem g_f16 : G_f16 Ev := { is := is_W rfl }
theorem g_f15 : G_f15 Ev := { is := is_W rfl, c_f114 := Qzt, c_f16 := g_f16 }
theorem g_f29 : G_f29 Ev := { is := is_W rfl, c_f15 := g_f15 }
theorem g_f32 : G_f32 Ev := { is := is_W rfl, c_f29 := g_f29 }
theorem g_f31 : G_f31 Ev := { is := is_W rfl, c_f111 := Qzq, c_f32 := g_f32 }
theorem g_f5 : G_f5 Ev := { is := is_W rfl, c_f25 := g_f25, c_f31 := g_f31 }
theorem Qzu : G_f115 Ev := { is := is_W rfl }
theorem Qzo : G_f109 Ev := { is := is_W rfl, c_f115 := Qzu }
theorem Qf3 : G_f116 Ev := { is := is_W rfl }
theorem g_f14 : G_f14 Ev := { is := is_W rfl }
theorem g_f13 : G_f13 Ev := { is := is_W rfl, c_f116 := Qf3, c_f14 := g_f14 }
theorem g_f7 : G_f7 Ev := { is := is_W rfl, c_f13 := g_f13 }
theorem g_f20 : G_f20 Ev := { is := is_W rfl, c_f7 := g_f7 }
theorem Qzv : G_f117 Ev := { is := is_W rfl }
theorem Qzp : G_f110 Ev := { is := is_W rfl, c_f117 := Qzv }
theorem g_f21 : G_f21 Ev := { is := is_W rfl, c_f7 := g_f7 }
theorem g_f19 : G_f19 Ev := { is := is_W rfl, c_f23 := g_f23, c_f3 := g_f3, c_f4 := g_f4, c_f39 := g_f39, c_f30 := g_f30, c_f5 := g_f5, c_f109 := Qzo, c_f20 := g_f20, c_f110 := Qzp, c_f21 := g_f21 }
theorem g_f34 : G_f34 Ev := { is := is_W rfl, c_f106 := Qnb, c_f107 := Qnc }
theorem g_f33 : G_f33 Ev := { is := is_W rfl, c_f29 := g_f29 }
theorem g_f12 : G_f12 Ev := { is := is_W rfl, c_f33 := g_f33 }
theorem g_f6 : G_f6 Ev := { is := is_W rfl, c_f12 := g_f12 }
theorem g_f11 : G_f11 Ev := { is := is_W rfl, c_f6 := g_f6 }
theorem g_f9 : G_f9 Ev := { is := is_W rfl }
theorem g_f22 : G_f22 Ev := { is := is_W rfl, c_f39 := g_f39, c_f40 := g_f40, c_f17 := g_f17, c_f36 := g_f36, c_f37 := g_f37 }
theorem g_f8 : G_f8 Ev := { is := is_W rfl, c_f34 := g_f34, c_f11 := g_f11, c_f116 := Qf3, c_f9 := g_f9, c_f22 := g_f22 }
theorem g_f27 : G_f27 Ev := { is := is_W rfl, c_f19 := g_f19, c_f8 := g_f8 }
theorem g_f48 : G_f48 Ev := { is := is_W rfl, c_f50 := g_f50, c_f60 := g_f60 }
theorem g_f62 : G_f62 Ev := { is := is_W rfl }
theorem g_f63 : G_f63 Ev := { is := is_W rfl }
theorem g_f61 : G_f61 Ev := { is := is_W rfl, c_f62 := g_f62, c_f63 := g_f63 }
theorem g_f99 : G_f99 Ev := { is := is_W rfl, c_f95 := g_f95 }
theorem g_f98 : G_f98 Ev := { is := is_W rfl, c_f99 := g_f99 }
theorem g_f90 : G_f90 Ev := { is := is_W rfl, c_f98 := g_f98 }
theorem g_f88 : G_f88 Ev := { is := is_W rfl, c_f86 := g_f86 }
theorem Qzm : G_f105 Ev := { is := is_W rfl, c_f103 := Qna }
theorem g_f94 : G_f94 Ev := { is := is_W rfl, c_f88 := g_f88, c_f105 := Qzm }
theorem g_f93 : G_f93 Ev := { is := is_W rfl, c_f94 := g_f94 }
theorem g_f85 : G_f85 Ev := { is := is_W rfl, c_f83 := g_f83 }
theorem Qzk : G_f102 Ev := { is := is_W rfl, c_f100 := Qm9 }
theorem g_f82 : G_f82 Ev := { is := is_W rfl, c_f90 := g_f90, c_f93 := g_f93, c_f85 := g_f85, c_f102 := Qzk }
theorem g_f35 : G_f35 Ev := { is := is_W rfl, c_f106 := Qnb, c_f107 := Qnc }
theorem g_f10 : G_f10 Ev := { is := is_W rfl, c_f11 := g_f11, c_f116 := Qf3, c_f9 := g_f9, c_f22 := g_f22, c_f35 := g_f35 }
theorem g_f28 : G_f28 Ev := { is := is_W rfl, c_f19 := g_f19, c_f10 := g_f10 }
theorem g_f68 : G_f68 Ev := { is := is_W rfl }
theorem g_f67 : G_f67 Ev := { is := is_W rfl, c_f68 := g_f68 }
theorem g_f65 : G_f65 Ev := { is := is_W rfl }
theorem g_f70 : G_f70 Ev := { is := is_W rfl }
theorem g_f66 : G_f66 Ev := { is := is_W rfl, c_f65 := g_f65, c_f70 := g_f70 }
theorem g_f64 : G_f64 Ev := { is := is_W rfl }
theorem g_f69 : G_f69 Ev := { is := is_W rfl }
theorem g_f44 : G_f44 Ev := { is := is_W rfl, c_f71 := g_f71, c_f81 := g_f81, c_f45 := g_f45, c_f131 := Qz4, c_f27 := g_f27, c_f48 := g_f48, c_f61 := g_f61, c_f82 := g_f82, c_f28 := g_f28, c_f67 := g_f67, c_f65 := g_f65, c_f70 := g_f70, c_f66 := g_f66, c_f64 := g_f64, c_f69 := g_f69 }
end Go.Proofs.YtmdnjglkdddaeaaGreat.Am.FnExactRecordOf
