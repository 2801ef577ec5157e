import Derived.Test.YtlgblpngiamhaaaGreatChecked
import Derived.KernelRfl
import Derived.Shelf.SlGeneric
import Derived.Ground.SlsfProg
import Derived.Test.YtlgblpngiamhaaaGreatAmW
import Derived.Test.YtlgblpngiamhaaaGreatHistoryOfF0
import Derived.Test.YtlgblpngiamhaaaGreatHistoryOfF1
import Derived.Test.YtlgblpngiamhaaaGreatAmCl
import Derived.Test.YtlgblpngiamhaaaGreatHistoryOfP0
import Derived.Test.YtlgblpngiamhaaaGreatAmSs
namespace Go.Proofs.YtlgblpngiamhaaaGreat.Am.FnExactHistoryOf
open Go Go.Proofs
set_option linter.unusedVariables false
set_option maxRecDepth 100000
def rho (m:Nat):FuncId:=match [(6,95),(9,129),(10,107),(11,130),(13,46),(14,166),(15,118),(23,58),(24,57),(27,70),(28,69),(29,127),(30,128),(33,89),(34,88),(35,146),(36,147),(46,10),(56,29),(70,97),(71,150),(72,167),(73,168),(74,169),(75,184),(76,185),(92,55),(93,38),(97,47),(99,32),(100,90),(101,148),(103,92),(104,149),(105,172),(107,100),(108,153),(109,173),(112,104),(113,155),(114,154),(115,174),(116,156),(117,175),(118,119),(119,164),(120,183),(124,16),(125,18),(128,14),(129,35),(130,34),(131,33),(132,91),(133,36),(135,99),(136,98),(137,93),(138,94),(139,96),(140,151),(141,152),(142,41),(143,40),(144,39),(145,101),(146,102),(147,103),(148,42),(150,105),(151,106),(152,108),(153,109),(154,111),(155,110),(156,114),(157,113),(158,158),(159,157),(160,176),(161,178),(162,177),(163,196),(164,179),(165,197),(166,205),(167,204),(168,159),(169,112),(170,160),(171,181),(172,180),(173,161),(174,50),(175,49),(176,48),(177,120),(178,121),(179,122),(224,115),(225,116),(235,56),(285,20),(290,37),(468,4),(469,17),(470,15),(471,45),(100027,70),(100028,69),(100093,38),(100107,100),(100108,153),(100124,16),(100142,41),(100143,40),(100144,39),(100145,101),(100222,43),(100224,115),(100225,116),(100469,17),(200095,30),(200121,123),(200122,165),(200232,31),(200287,11),(200316,54),(200317,53),(200318,52),(200472,44)].lookup m with | some f=>f | none=>0
theorem Qxi:matchFn Tryz.prog rho 35 2 f43_ac [(4,none)] = true:=by kernel_rfl
theorem Qxj:matchFn Tryz.prog rho 34 2 f44_ac [(4,none)] = true:=by kernel_rfl
theorem Qxy:matchFn Tryz.prog rho 36 2 f53_ac [(4,none)] = true:=by kernel_rfl
theorem Qxz:matchFn Tryz.prog rho 33 2 f54_ac [(4,none)] = true:=by kernel_rfl
theorem Qxb:matchFn Tryz.prog rho 56 2 f39_ac [(4,none)] = true:=by kernel_rfl
theorem Qxe:matchFn Tryz.prog rho 46 2 f40_ac [(4,none)] = true:=by kernel_rfl
theorem Qyy:matchFn Tryz.prog rho 101 2 f74_ac [(4,none)] = true:=by kernel_rfl
theorem Qy0:matchFn Tryz.prog rho 100 2 f75_ac [(4,none)] = true:=by kernel_rfl
theorem Qyt:matchFn Tryz.prog rho 99 2 f71_ac [(4,none)] = true:=by kernel_rfl
theorem Qyr:matchFn Tryz.prog rho 24 2 f70_ac [(4,none)] = true:=by kernel_rfl
theorem Qy4:matchFn Tryz.prog rho 23 2 f77_ac [(4,none)] = true:=by kernel_rfl
theorem Qyu:matchFn Tryz.prog rho 132 2 f72_ac [(4,none)] = true:=by kernel_rfl
theorem Qyw:matchFn Tryz.prog rho 131 2 f73_ac [(4,none)] = true:=by kernel_rfl
theorem Qyo:matchFn Tryz.prog rho 130 2 f69_ac [(4,none)] = true:=by kernel_rfl
theorem Qy2:matchFn Tryz.prog rho 129 2 f76_ac [(4,none)] = true:=by kernel_rfl
theorem Qym:matchFn Tryz.prog rho 128 2 f66_ac [(4,none)] = true:=by kernel_rfl
theorem Qv5:matchFn Tryz.prog rho 6 3 f133_ac [(6,none)] = true:=by kernel_rfl
theorem Qvq:matchFn Tryz.prog rho 105 1 f128_ac [(2,none)] = true:=by kernel_rfl
theorem Qvh:matchFn Tryz.prog rho 104 1 f124_ac [(2,none)] = true:=by kernel_rfl
theorem Qvm:matchFn Tryz.prog rho 103 1 f126_ac [(2,none)] = true:=by kernel_rfl
theorem Qu1:matchFn Tryz.prog rho 137 1 f119_ac [(2,none)] = true:=by kernel_rfl
theorem Qu6:matchFn Tryz.prog rho 138 1 f120_ac [(2,none)] = true:=by kernel_rfl
theorem Qvt:matchFn Tryz.prog rho 139 1 f129_ac [(2,none)] = true:=by kernel_rfl
theorem Qv8:matchFn Tryz.prog rho 71 2 f134_ac [(4,none)] = true:=by kernel_rfl
theorem Qvo:matchFn Tryz.prog rho 70 1 f127_ac [(2,none)] = true:=by kernel_rfl
theorem Qvc:matchFn Tryz.prog rho 140 2 f122_ac [(4,none)] = true:=by kernel_rfl
theorem Qvx:matchFn Tryz.prog rho 136 2 f130_ac [(4,none)] = true:=by kernel_rfl
theorem Qu9:matchFn Tryz.prog rho 141 2 f121_ac [(4,none)] = true:=by kernel_rfl
theorem Qvz:matchFn Tryz.prog rho 135 2 f131_ac [(4,none)] = true:=by kernel_rfl
theorem Qvk:matchFn Tryz.prog rho 133 1 f125_ac [(2,none)] = true:=by kernel_rfl
theorem Qv3:matchFn Tryz.prog rho 290 1 f132_ac [(2,some (true,4))] = true:=by kernel_rfl
theorem Qvf:matchFn Tryz.prog rho 470 1 f123_ac [(2,none)] = true:=by kernel_rfl
theorem Qzx:matchFn Tryz.prog rho 109 1 f96_ac [(2,some (true,5))] = true:=by kernel_rfl
theorem Qz0:matchFn Tryz.prog rho 108 1 f97_ac [(2,none)] = true:=by kernel_rfl
theorem Qz2:matchFn Tryz.prog rho 107 1 f98_ac [(2,none)] = true:=by kernel_rfl
theorem Qzm:matchFn Tryz.prog rho 93 1 f90_ac [(2,some (true,1))] = true:=by kernel_rfl
theorem Qzf:matchFn Tryz.prog rho 29 1 f87_ac [(2,some (true,2))] = true:=by kernel_rfl
theorem Qzh:matchFn Tryz.prog rho 28 1 f88_ac [(2,none)] = true:=by kernel_rfl
theorem Qtm:matchFn Tryz.prog rho 30 1 f104_ac [(2,some (true,2))] = true:=by kernel_rfl
theorem Qtp:matchFn Tryz.prog rho 27 1 f105_ac [(2,none)] = true:=by kernel_rfl
theorem Qzq:matchFn Tryz.prog rho 145 1 f92_ac [(2,some (true,9))] = true:=by kernel_rfl
theorem Qzs:matchFn Tryz.prog rho 144 1 f93_ac [(2,none)] = true:=by kernel_rfl
theorem Qza:matchFn Tryz.prog rho 146 1 f84_ac [(2,some (true,2))] = true:=by kernel_rfl
theorem Qzc:matchFn Tryz.prog rho 143 1 f85_ac [(2,none)] = true:=by kernel_rfl
theorem Qte:matchFn Tryz.prog rho 147 1 f101_ac [(2,some (true,2))] = true:=by kernel_rfl
theorem Qth:matchFn Tryz.prog rho 142 1 f102_ac [(2,none)] = true:=by kernel_rfl
theorem Qy6:matchFn Tryz.prog rho 124 1 f78_ac [(2,some (true,6))] = true:=by kernel_rfl
theorem Quj:matchFn Tryz.prog rho 115 2 f113_ac [(4,none)] = true:=by kernel_rfl
theorem Qt5:matchFn Tryz.prog rho 114 2 f109_ac [(4,none)] = true:=by kernel_rfl
theorem Qw3:matchFn Tryz.prog rho 10 3 f32_ac [(6,none)] = true:=by kernel_rfl
theorem Qw4:matchFn Tryz.prog rho 9 1 f33_ac [(2,none)] = true:=by kernel_rfl
theorem Qw7:matchFn Tryz.prog rho 76 1 f36_ac [(2,none)] = true:=by kernel_rfl
theorem Qwq:matchFn Tryz.prog rho 117 1 f22_ac [(2,none)] = true:=by kernel_rfl
theorem Qwd:matchFn Tryz.prog rho 116 1 f15_ac [(2,none)] = true:=by kernel_rfl
theorem Qwn:matchFn Tryz.prog rho 113 1 f20_ac [(2,none)] = true:=by kernel_rfl
theorem Qwk:matchFn Tryz.prog rho 112 1 f19_ac [(2,none)] = true:=by kernel_rfl
theorem Qw5:matchFn Tryz.prog rho 11 1 f34_ac [(2,none)] = true:=by kernel_rfl
theorem Qxc:matchFn Tryz.prog rho 150 1 f3_ac [(2,none)] = true:=by kernel_rfl
theorem Qxs:matchFn Tryz.prog rho 151 1 f4_ac [(2,none)] = true:=by kernel_rfl
theorem Qws:matchFn Tryz.prog rho 152 1 f24_ac [(2,none)] = true:=by kernel_rfl
theorem Qwb:matchFn Tryz.prog rho 72 1 f14_ac [(2,none)] = true:=by kernel_rfl
theorem Qwy:matchFn Tryz.prog rho 15 1 f2_ac [(2,none)] = true:=by kernel_rfl
theorem Qta:matchFn Tryz.prog rho 13 2 f0_ac [(4,none)] = true:=by kernel_rfl
theorem Qwl:matchFn Tryz.prog rho 14 1 f1_ac [(2,none)] = true:=by kernel_rfl
theorem Qw2:matchFn Tryz.prog rho 75 2 f31_ac [(4,none)] = true:=by kernel_rfl
theorem Qwx:matchFn Tryz.prog rho 73 1 f29_ac [(2,none)] = true:=by kernel_rfl
theorem Qw0:matchFn Tryz.prog rho 74 1 f30_ac [(2,none)] = true:=by kernel_rfl
theorem Qw6:matchFn Tryz.prog rho 160 1 f35_ac [(2,none)] = true:=by kernel_rfl
theorem Qwp:matchFn Tryz.prog rho 159 1 f21_ac [(2,none)] = true:=by kernel_rfl
theorem Qum:matchFn Tryz.prog rho 163 2 f114_ac [(4,none)] = true:=by kernel_rfl
theorem Qug:matchFn Tryz.prog rho 162 2 f112_ac [(4,none)] = true:=by kernel_rfl
theorem Qup:matchFn Tryz.prog rho 167 2 f115_ac [(4,none)] = true:=by kernel_rfl
theorem Qt7:matchFn Tryz.prog rho 166 2 f10_ac [(3,none)] = true:=by kernel_rfl
theorem Qz5:matchFn Tryz.prog rho 165 2 f9_ac [(4,none)] = true:=by kernel_rfl
theorem Qwr:matchFn Tryz.prog rho 164 2 f23_ac [(4,none)] = true:=by kernel_rfl
theorem Qwu:matchFn Tryz.prog rho 161 2 f26_ac [(3,none)] = true:=by kernel_rfl
theorem Qwt:matchFn Tryz.prog rho 158 2 f25_ac [(4,none)] = true:=by kernel_rfl
theorem Qya:matchFn Tryz.prog rho 153 1 f5_ac [(2,none)] = true:=by kernel_rfl
theorem Qus:matchFn Tryz.prog rho 168 2 f116_ac [(4,none)] = true:=by kernel_rfl
theorem Qua:matchFn Tryz.prog rho 155 2 f110_ac [(4,none)] = true:=by kernel_rfl
theorem Quv:matchFn Tryz.prog rho 172 2 f117_ac [(4,none)] = true:=by kernel_rfl
theorem Qzk:matchFn Tryz.prog rho 171 2 f8_ac [(3,none)] = true:=by kernel_rfl
theorem Qy9:matchFn Tryz.prog rho 170 2 f7_ac [(4,none)] = true:=by kernel_rfl
theorem Qyp:matchFn Tryz.prog rho 169 2 f6_ac [(4,none)] = true:=by kernel_rfl
theorem Qwg:matchFn Tryz.prog rho 154 2 f17_ac [(3,none)] = true:=by kernel_rfl
theorem Quy:matchFn Tryz.prog rho 173 2 f118_ac [(4,none)] = true:=by kernel_rfl
theorem Qud:matchFn Tryz.prog rho 157 2 f111_ac [(4,none)] = true:=by kernel_rfl
theorem Qwi:matchFn Tryz.prog rho 156 2 f18_ac [(3,none)] = true:=by kernel_rfl
theorem Qwe:matchFn Tryz.prog rho 148 1 f16_ac [(2,none)] = true:=by kernel_rfl
theorem Qvu:matchFn Tryz.prog rho 471 2 f12_ac [(4,none)] = true:=by kernel_rfl
theorem Qwv:matchFn Tryz.prog rho 100222 1 f28_ac [(2,some (true,9))] = true:=by kernel_rfl
theorem Qu3:matchFn Tryz.prog rho 469 1 f11_ac [(2,none)] = true:=by kernel_rfl
theorem Qxp:matchFn Tryz.prog rho 120 2 f48_ac [(4,none)] = true:=by kernel_rfl
theorem Qxr:matchFn Tryz.prog rho 119 2 f49_ac [(4,none)] = true:=by kernel_rfl
theorem Qxu:matchFn Tryz.prog rho 118 2 f50_ac [(4,none)] = true:=by kernel_rfl
theorem Qxl:matchFn Tryz.prog rho 97 2 f45_ac [(4,none)] = true:=by kernel_rfl
theorem Qxm:matchFn Tryz.prog rho 177 2 f46_ac [(4,none)] = true:=by kernel_rfl
theorem Qxo:matchFn Tryz.prog rho 176 2 f47_ac [(4,none)] = true:=by kernel_rfl
theorem Qxf:matchFn Tryz.prog rho 178 2 f41_ac [(4,none)] = true:=by kernel_rfl
theorem Qxh:matchFn Tryz.prog rho 175 2 f42_ac [(4,none)] = true:=by kernel_rfl
theorem Qxv:matchFn Tryz.prog rho 179 2 f51_ac [(4,none)] = true:=by kernel_rfl
theorem Qxx:matchFn Tryz.prog rho 174 2 f52_ac [(4,none)] = true:=by kernel_rfl
theorem Qxa:matchFn Tryz.prog rho 125 2 f38_ac [(4,none)] = true:=by kernel_rfl
theorem Qx3:matchFn Tryz.prog rho 92 2 f56_ac [(4,none)] = true:=by kernel_rfl
theorem Qx5:matchFn Tryz.prog rho 235 2 f57_ac [(4,none)] = true:=by kernel_rfl
theorem Qx1:matchFn Tryz.prog rho 285 2 f55_ac [(4,none)] = true:=by kernel_rfl
theorem Qtc:matchFn Tryz.prog rho 100108 1 f100_ac [(2,none)] = true:=by kernel_rfl
theorem Qz4:matchFn Tryz.prog rho 100107 1 f99_ac [(2,none)] = true:=by kernel_rfl
theorem Qzo:matchFn Tryz.prog rho 100093 1 f91_ac [(2,some (true,1))] = true:=by kernel_rfl
theorem Qzj:matchFn Tryz.prog rho 100028 1 f89_ac [(2,none)] = true:=by kernel_rfl
theorem Qts:matchFn Tryz.prog rho 100027 1 f106_ac [(2,none)] = true:=by kernel_rfl
theorem Qzw:matchFn Tryz.prog rho 100145 1 f95_ac [(2,some (true,9))] = true:=by kernel_rfl
theorem Qzu:matchFn Tryz.prog rho 100144 1 f94_ac [(2,none)] = true:=by kernel_rfl
theorem Qze:matchFn Tryz.prog rho 100143 1 f86_ac [(2,none)] = true:=by kernel_rfl
theorem Qtk:matchFn Tryz.prog rho 100142 1 f103_ac [(2,none)] = true:=by kernel_rfl
theorem Qy8:matchFn Tryz.prog rho 100124 1 f79_ac [(2,some (true,6))] = true:=by kernel_rfl
theorem Qwa:matchFn Tryz.prog rho 100469 1 f13_ac [(2,none)] = true:=by kernel_rfl
theorem Qyb:matchFn Tryz.prog rho 200095 2 f60_ac [(4,none)] = true:=by kernel_rfl
theorem Qyk:matchFn Tryz.prog rho 200232 2 f65_ac [(4,none)] = true:=by kernel_rfl
theorem Qx6:matchFn Tryz.prog rho 200287 2 f58_ac [(4,none)] = true:=by kernel_rfl
theorem Qyd:matchFn Tryz.prog rho 200318 2 f61_ac [(4,none)] = true:=by kernel_rfl
theorem Qx9:matchFn Tryz.prog rho 200317 2 f59_ac [(4,none)] = true:=by kernel_rfl
theorem Qyj:matchFn Tryz.prog rho 200316 2 f64_ac [(4,none)] = true:=by kernel_rfl
theorem Qyh:matchFn Tryz.prog rho 200122 2 f63_ac [(4,none)] = true:=by kernel_rfl
theorem Qyf:matchFn Tryz.prog rho 200121 2 f62_ac [(4,none)] = true:=by kernel_rfl
theorem Qw8:matchFn Tryz.prog rho 468 1 f37_ac [(2,none)] = true:=by kernel_rfl
def tbl:List (Nat × Fn):=[(35,⟨2,f43_ac,[(4,none)]⟩),
 (34,⟨2,f44_ac,[(4,none)]⟩),
 (36,⟨2,f53_ac,[(4,none)]⟩),
 (33,⟨2,f54_ac,[(4,none)]⟩),
 (56,⟨2,f39_ac,[(4,none)]⟩),
 (46,⟨2,f40_ac,[(4,none)]⟩),
 (101,⟨2,f74_ac,[(4,none)]⟩),
 (100,⟨2,f75_ac,[(4,none)]⟩),
 (99,⟨2,f71_ac,[(4,none)]⟩),
 (24,⟨2,f70_ac,[(4,none)]⟩),
 (23,⟨2,f77_ac,[(4,none)]⟩),
 (132,⟨2,f72_ac,[(4,none)]⟩),
 (131,⟨2,f73_ac,[(4,none)]⟩),
 (130,⟨2,f69_ac,[(4,none)]⟩),
 (129,⟨2,f76_ac,[(4,none)]⟩),
 (128,⟨2,f66_ac,[(4,none)]⟩),
 (6,⟨3,f133_ac,[(6,none)]⟩),
 (105,⟨1,f128_ac,[(2,none)]⟩),
 (104,⟨1,f124_ac,[(2,none)]⟩),
 (103,⟨1,f126_ac,[(2,none)]⟩),
 (137,⟨1,f119_ac,[(2,none)]⟩),
 (138,⟨1,f120_ac,[(2,none)]⟩),
 (139,⟨1,f129_ac,[(2,none)]⟩),
 (71,⟨2,f134_ac,[(4,none)]⟩),
 (70,⟨1,f127_ac,[(2,none)]⟩),
 (140,⟨2,f122_ac,[(4,none)]⟩),
 (136,⟨2,f130_ac,[(4,none)]⟩),
 (141,⟨2,f121_ac,[(4,none)]⟩),
 (135,⟨2,f131_ac,[(4,none)]⟩),
 (133,⟨1,f125_ac,[(2,none)]⟩),
 (290,⟨1,f132_ac,[(2,some (true,4))]⟩),
 (470,⟨1,f123_ac,[(2,none)]⟩),
 (109,⟨1,f96_ac,[(2,some (true,5))]⟩),
 (108,⟨1,f97_ac,[(2,none)]⟩),
 (107,⟨1,f98_ac,[(2,none)]⟩),
 (93,⟨1,f90_ac,[(2,some (true,1))]⟩),
 (29,⟨1,f87_ac,[(2,some (true,2))]⟩),
 (28,⟨1,f88_ac,[(2,none)]⟩),
 (30,⟨1,f104_ac,[(2,some (true,2))]⟩),
 (27,⟨1,f105_ac,[(2,none)]⟩),
 (145,⟨1,f92_ac,[(2,some (true,9))]⟩),
 (144,⟨1,f93_ac,[(2,none)]⟩),
 (146,⟨1,f84_ac,[(2,some (true,2))]⟩),
 (143,⟨1,f85_ac,[(2,none)]⟩),
 (147,⟨1,f101_ac,[(2,some (true,2))]⟩),
 (142,⟨1,f102_ac,[(2,none)]⟩),
 (124,⟨1,f78_ac,[(2,some (true,6))]⟩),
 (115,⟨2,f113_ac,[(4,none)]⟩),
 (114,⟨2,f109_ac,[(4,none)]⟩),
 (10,⟨3,f32_ac,[(6,none)]⟩),
 (9,⟨1,f33_ac,[(2,none)]⟩),
 (76,⟨1,f36_ac,[(2,none)]⟩),
 (117,⟨1,f22_ac,[(2,none)]⟩),
 (116,⟨1,f15_ac,[(2,none)]⟩),
 (113,⟨1,f20_ac,[(2,none)]⟩),
 (112,⟨1,f19_ac,[(2,none)]⟩),
 (11,⟨1,f34_ac,[(2,none)]⟩),
 (150,⟨1,f3_ac,[(2,none)]⟩),
 (151,⟨1,f4_ac,[(2,none)]⟩),
 (152,⟨1,f24_ac,[(2,none)]⟩),
 (72,⟨1,f14_ac,[(2,none)]⟩),
 (15,⟨1,f2_ac,[(2,none)]⟩),
 (13,⟨2,f0_ac,[(4,none)]⟩),
 (14,⟨1,f1_ac,[(2,none)]⟩),
 (75,⟨2,f31_ac,[(4,none)]⟩),
 (73,⟨1,f29_ac,[(2,none)]⟩),
 (74,⟨1,f30_ac,[(2,none)]⟩),
 (160,⟨1,f35_ac,[(2,none)]⟩),
 (159,⟨1,f21_ac,[(2,none)]⟩),
 (163,⟨2,f114_ac,[(4,none)]⟩),
 (162,⟨2,f112_ac,[(4,none)]⟩),
 (167,⟨2,f115_ac,[(4,none)]⟩),
 (166,⟨2,f10_ac,[(3,none)]⟩),
 (165,⟨2,f9_ac,[(4,none)]⟩),
 (164,⟨2,f23_ac,[(4,none)]⟩),
 (161,⟨2,f26_ac,[(3,none)]⟩),
 (158,⟨2,f25_ac,[(4,none)]⟩),
 (153,⟨1,f5_ac,[(2,none)]⟩),
 (168,⟨2,f116_ac,[(4,none)]⟩),
 (155,⟨2,f110_ac,[(4,none)]⟩),
 (172,⟨2,f117_ac,[(4,none)]⟩),
 (171,⟨2,f8_ac,[(3,none)]⟩),
 (170,⟨2,f7_ac,[(4,none)]⟩),
 (169,⟨2,f6_ac,[(4,none)]⟩),
 (154,⟨2,f17_ac,[(3,none)]⟩),
 (173,⟨2,f118_ac,[(4,none)]⟩),
 (157,⟨2,f111_ac,[(4,none)]⟩),
 (156,⟨2,f18_ac,[(3,none)]⟩),
 (148,⟨1,f16_ac,[(2,none)]⟩),
 (471,⟨2,f12_ac,[(4,none)]⟩),
 (100222,⟨1,f28_ac,[(2,some (true,9))]⟩),
 (469,⟨1,f11_ac,[(2,none)]⟩),
 (120,⟨2,f48_ac,[(4,none)]⟩),
 (119,⟨2,f49_ac,[(4,none)]⟩),
 (118,⟨2,f50_ac,[(4,none)]⟩),
 (97,⟨2,f45_ac,[(4,none)]⟩),
 (177,⟨2,f46_ac,[(4,none)]⟩),
 (176,⟨2,f47_ac,[(4,none)]⟩),
 (178,⟨2,f41_ac,[(4,none)]⟩),
 (175,⟨2,f42_ac,[(4,none)]⟩),
 (179,⟨2,f51_ac,[(4,none)]⟩),
 (174,⟨2,f52_ac,[(4,none)]⟩),
 (125,⟨2,f38_ac,[(4,none)]⟩),
 (92,⟨2,f56_ac,[(4,none)]⟩),
 (235,⟨2,f57_ac,[(4,none)]⟩),
 (285,⟨2,f55_ac,[(4,none)]⟩),
 (100108,⟨1,f100_ac,[(2,none)]⟩),
 (100107,⟨1,f99_ac,[(2,none)]⟩),
 (100093,⟨1,f91_ac,[(2,some (true,1))]⟩),
 (100028,⟨1,f89_ac,[(2,none)]⟩),
 (100027,⟨1,f106_ac,[(2,none)]⟩),
 (100145,⟨1,f95_ac,[(2,some (true,9))]⟩),
 (100144,⟨1,f94_ac,[(2,none)]⟩),
 (100143,⟨1,f86_ac,[(2,none)]⟩),
 (100142,⟨1,f103_ac,[(2,none)]⟩),
 (100124,⟨1,f79_ac,[(2,some (true,6))]⟩),
 (100469,⟨1,f13_ac,[(2,none)]⟩),
 (200095,⟨2,f60_ac,[(4,none)]⟩),
 (200232,⟨2,f65_ac,[(4,none)]⟩),
 (200287,⟨2,f58_ac,[(4,none)]⟩),
 (200318,⟨2,f61_ac,[(4,none)]⟩),
 (200317,⟨2,f59_ac,[(4,none)]⟩),
 (200316,⟨2,f64_ac,[(4,none)]⟩),
 (200122,⟨2,f63_ac,[(4,none)]⟩),
 (200121,⟨2,f62_ac,[(4,none)]⟩),
 (468,⟨1,f37_ac,[(2,none)]⟩)]
theorem Qro:AllMatch Tryz.prog rho tbl:=⟨Qxi,Qxj,Qxy,Qxz,Qxb,Qxe,Qyy,Qy0,Qyt,Qyr,Qy4,Qyu,Qyw,Qyo,Qy2,Qym,Qv5,Qvq,Qvh,Qvm,Qu1,Qu6,Qvt,Qv8,Qvo,Qvc,Qvx,Qu9,Qvz,Qvk,Qv3,Qvf,Qzx,Qz0,Qz2,Qzm,Qzf,Qzh,Qtm,Qtp,Qzq,Qzs,Qza,Qzc,Qte,Qth,Qy6,Quj,Qt5,Qw3,Qw4,Qw7,Qwq,Qwd,Qwn,Qwk,Qw5,Qxc,Qxs,Qws,Qwb,Qwy,Qta,Qwl,Qw2,Qwx,Qw0,Qw6,Qwp,Qum,Qug,Qup,Qt7,Qz5,Qwr,Qwu,Qwt,Qya,Qus,Qua,Quv,Qzk,Qy9,Qyp,Qwg,Quy,Qud,Qwi,Qwe,Qvu,Qwv,Qu3,Qxp,Qxr,Qxu,Qxl,Qxm,Qxo,Qxf,Qxh,Qxv,Qxx,Qxa,Qx3,Qx5,Qx1,Qtc,Qz4,Qzo,Qzj,Qts,Qzw,Qzu,Qze,Qtk,Qy8,Qwa,Qyb,Qyk,Qx6,Qyd,Qx9,Qyj,Qyh,Qyf,Qw8,trivial⟩
theorem Qtw:matchFn Tryz.prog rho 224 1 f107_ac [(2,none)] = true:=by kernel_rfl
theorem Qtv:matchFn Tryz.prog rho (100000 + 224) 1 f107_ac [(2,none)] = true:=by kernel_rfl
theorem Qt1:matchFn Tryz.prog rho 225 1 f108_ac [(2,none)] = true:=by kernel_rfl
theorem Qt0:matchFn Tryz.prog rho (100000 + 225) 1 f108_ac [(2,none)] = true:=by kernel_rfl
def ctbl:List (Nat × Nat × Nat × AC):=[(224,2,16,f107_ac),(225,2,16,f108_ac)]
theorem Qsq:CloneAll Tryz.prog rho ctbl:=⟨by decide,Qtw,Qtv,Qtx,by decide,Qt1,Qt0,Qt2,trivial⟩
noncomputable abbrev E1:Env:=EnvW noEnv (look tbl)
theorem good1:Good Tryz.prog rho E1:=Qod (Qh5 Qro) (by kernel_rfl) Qbo
theorem g1_f2:G_f2 E1:={ is:=is_W rfl }
theorem g1_f0:G_f0 E1:={ is:=is_W rfl,c_f2:=g1_f2 }
theorem Qaam:G_f12 E1:={ is:=is_W rfl,c_f0:=g1_f0 }
shelf_lay_g SlLaysF0.n20 Slsf 20 at Tryz 162 as Tryz.insEnt
abbrev StabPL {P:Program} {R:Shelf.Ren} (_:SlLaysF0.n20 P R) (f:FuncId):Prop:=StabP P R f
theorem stabP:StabPL Tryz.insEnt 44 where
 lay:=Tryz.insEnt
 walk:=fun a n cap fv w Q hn hc=>by
  have hc':Calls Tryz.prog 162 #[.slice a n cap,.int .i64 0,.int .i64 n,fv] w (fun e w'=>e = .returned (.tuple #[]) ∧ Q w'):=hc
  have hi:Calls Tryz.prog 117 #[.slice a n cap,.int .i64 (n:Int),fv] w fun e w'=>e = .returned (.tuple #[]) ∧ Q w':=by
   have h20:¬ (20:Int) ≤ (n:Int):=by omega
   have h21:¬ (20:Int) < (n:Int):=by omega
   clear hc
   go_enter Tryz.func117,Tryz.ntmps117
   go_wp2
   refine wp_loop_rounds 1 ?_
   rw [rounds_succ]
   go_wp2_with (go_at_call 162; refine hc'.mono ?_; rintro e w' ⟨rfl,hq⟩)
   refine wp_loop_rounds 1 ?_
   rw [rounds_succ]
   go_wp2
   go_end0
   exact ⟨rfl,hq⟩
  clear hc hc'
  go_enter Tryz.func44,Tryz.ntmps44
  go_wp2_with (go_at_call 117; refine hi.mono ?_; rintro e w' ⟨rfl,hq⟩)
  go_end0
  exact ⟨rfl,hq⟩
noncomputable abbrev Ev:Env:=EnvW (stabE (200000 + 472) 471 4 key1 isEnt (cloneE ctbl)) (look tbl)
theorem good:Good Tryz.prog rho Ev:=Qod (Qh5 Qro) (by kernel_rfl) (Qabm stabP Tryz.isAgg68 Tryz.sizeOf68 (by decide) good1 (Qabk (by kernel_rfl) Qsq) (by decide) (by kernel_rfl) (by decide) (by kernel_rfl) (Qabq Qaam) Qab0)
theorem Qaas:IsClone Ev 224 2 16:=Qot (by decide) (by decide) rfl rfl rfl
theorem Qaat:IsClone Ev 225 2 16:=Qot (by decide) (by decide) rfl rfl rfl
theorem g_f43:G_f43 Ev:={ is:=is_W rfl }
theorem g_f44:G_f44 Ev:={ is:=is_W rfl,c_f43:=g_f43 }
theorem g_f53:G_f53 Ev:={ is:=is_W rfl }
theorem g_f54:G_f54 Ev:={ is:=is_W rfl,c_f53:=g_f53 }
theorem g_f39:G_f39 Ev:={ is:=is_W rfl,c_f44:=g_f44,c_f54:=g_f54 }
theorem g_f40:G_f40 Ev:={ is:=is_W rfl,c_f39:=g_f39 }
theorem g_f74:G_f74 Ev:={ is:=is_W rfl }
theorem g_f75:G_f75 Ev:={ is:=is_W rfl,c_f74:=g_f74 }
theorem g_f71:G_f71 Ev:={ is:=is_W rfl,c_f75:=g_f75 }
theorem g_f70:G_f70 Ev:={ is:=is_W rfl }
theorem g_f77:G_f77 Ev:={ is:=is_W rfl }
theorem g_f72:G_f72 Ev:={ is:=is_W rfl,c_f70:=g_f70,c_f77:=g_f77 }
theorem g_f73:G_f73 Ev:={ is:=is_W rfl,c_f72:=g_f72 }
theorem g_f69:G_f69 Ev:={ is:=is_W rfl }
theorem g_f76:G_f76 Ev:={ is:=is_W rfl }
theorem g_f66:G_f66 Ev:={ is:=is_W rfl,c_f71:=g_f71,c_f73:=g_f73,c_f69:=g_f69,c_f76:=g_f76 }
theorem Qdz:G_f133 Ev:={ is:=is_W rfl }
theorem Qabb:G_f128 Ev:={ is:=is_W rfl,c_f133:=Qdz }
theorem Qaa9:G_f124 Ev:={ is:=is_W rfl,c_f128:=Qabb }
theorem Qgl:G_f126 Ev:={ is:=is_W rfl,c_f124:=Qaa9 }
theorem Qaa4:G_f119 Ev:={ is:=is_W rfl,c_f133:=Qdz }
theorem Qaa5:G_f120 Ev:={ is:=is_W rfl,c_f133:=Qdz }
theorem Qabc:G_f129 Ev:={ is:=is_W rfl,c_f126:=Qgl }
theorem Qabg:G_f134 Ev:={ is:=is_W rfl }
theorem Qn9:G_f127 Ev:={ is:=is_W rfl,c_f133:=Qdz,c_f134:=Qabg }
theorem Qaa7:G_f122 Ev:={ is:=is_W rfl }
theorem Qabd:G_f130 Ev:={ is:=is_W rfl,c_f126:=Qgl,c_f127:=Qn9,c_f122:=Qaa7 }
theorem Qaa6:G_f121 Ev:={ is:=is_W rfl }
theorem Qabe:G_f131 Ev:={ is:=is_W rfl,c_f121:=Qaa6 }
theorem Qaba:G_f125 Ev:={ is:=is_W rfl,c_f126:=Qgl,c_f119:=Qaa4,c_f120:=Qaa5,c_f133:=Qdz,c_f129:=Qabc,c_f127:=Qn9,c_f130:=Qabd,c_f131:=Qabe }
theorem Qabf:G_f132 Ev:={ is:=is_W rfl }
theorem Qaa8:G_f123 Ev:={ is:=is_W rfl,c_f125:=Qaba,c_f132:=Qabf }
theorem g_f96:G_f96 Ev:={ is:=is_W rfl }
theorem g_f97:G_f97 Ev:={ is:=is_W rfl,c_f96:=g_f96 }
theorem g_f98:G_f98 Ev:={ is:=is_W rfl,c_f97:=g_f97 }
theorem g_f90:G_f90 Ev:={ is:=is_W rfl,c_f98:=g_f98 }
theorem g_f87:G_f87 Ev:={ is:=is_W rfl }
theorem g_f88:G_f88 Ev:={ is:=is_W rfl,c_f87:=g_f87 }
theorem Qn8:G_f104 Ev:={ is:=is_W rfl }
theorem Qaaq:G_f105 Ev:={ is:=is_W rfl,c_f104:=Qn8 }
theorem g_f92:G_f92 Ev:={ is:=is_W rfl,c_f88:=g_f88,c_f105:=Qaaq }
theorem g_f93:G_f93 Ev:={ is:=is_W rfl,c_f92:=g_f92 }
theorem g_f84:G_f84 Ev:={ is:=is_W rfl }
theorem g_f85:G_f85 Ev:={ is:=is_W rfl,c_f84:=g_f84 }
theorem Qn7:G_f101 Ev:={ is:=is_W rfl }
theorem Qaao:G_f102 Ev:={ is:=is_W rfl,c_f101:=Qn7 }
theorem g_f78:G_f78 Ev:={ is:=is_W rfl,c_f90:=g_f90,c_f93:=g_f93,c_f85:=g_f85,c_f102:=Qaao }
theorem Qaay:G_f113 Ev:={ is:=is_W rfl }
theorem Qaau:G_f109 Ev:={ is:=is_W rfl,c_f113:=Qaay }
theorem g_f32:G_f32 Ev:={ is:=is_W rfl }
theorem g_f33:G_f33 Ev:={ is:=is_W rfl,c_f32:=g_f32 }
theorem g_f36:G_f36 Ev:={ is:=is_W rfl,c_f32:=g_f32 }
theorem g_f22:G_f22 Ev:={ is:=is_W rfl,c_f32:=g_f32,c_f33:=g_f33,c_f36:=g_f36 }
theorem g_f15:G_f15 Ev:={ is:=is_W rfl,c_f22:=g_f22 }
theorem g_f20:G_f20 Ev:={ is:=is_W rfl,c_f15:=g_f15 }
theorem g_f19:G_f19 Ev:={ is:=is_W rfl,c_f109:=Qaau,c_f20:=g_f20 }
theorem g_f34:G_f34 Ev:={ is:=is_W rfl,c_f32:=g_f32 }
theorem g_f3:G_f3 Ev:={ is:=is_W rfl,c_f33:=g_f33,c_f34:=g_f34 }
theorem g_f4:G_f4 Ev:={ is:=is_W rfl,c_f33:=g_f33 }
theorem g_f24:G_f24 Ev:={ is:=is_W rfl }
theorem g_f14:G_f14 Ev:={ is:=is_W rfl,c_f32:=g_f32 }
theorem g_f2:G_f2 Ev:={ is:=is_W rfl }
theorem g_f0:G_f0 Ev:={ is:=is_W rfl,c_f2:=g_f2 }
theorem g_f1:G_f1 Ev:={ is:=is_W rfl }
theorem g_f31:G_f31 Ev:={ is:=is_W rfl,c_f0:=g_f0,c_f1:=g_f1 }
theorem g_f29:G_f29 Ev:={ is:=is_W rfl,c_f32:=g_f32,c_f34:=g_f34,c_f31:=g_f31 }
theorem g_f30:G_f30 Ev:={ is:=is_W rfl,c_f34:=g_f34,c_f36:=g_f36 }
theorem g_f35:G_f35 Ev:={ is:=is_W rfl,c_f32:=g_f32 }
theorem g_f21:G_f21 Ev:={ is:=is_W rfl,c_f32:=g_f32,c_f33:=g_f33,c_f14:=g_f14,c_f29:=g_f29,c_f30:=g_f30,c_f35:=g_f35 }
theorem Qaaz:G_f114 Ev:={ is:=is_W rfl }
theorem Qaax:G_f112 Ev:={ is:=is_W rfl,c_f114:=Qaaz }
theorem Qaa0:G_f115 Ev:={ is:=is_W rfl }
theorem g_f10:G_f10 Ev:={ is:=is_W rfl }
theorem g_f9:G_f9 Ev:={ is:=is_W rfl,c_f115:=Qaa0,c_f10:=g_f10 }
theorem g_f23:G_f23 Ev:={ is:=is_W rfl,c_f9:=g_f9 }
theorem g_f26:G_f26 Ev:={ is:=is_W rfl,c_f23:=g_f23 }
theorem g_f25:G_f25 Ev:={ is:=is_W rfl,c_f112:=Qaax,c_f26:=g_f26 }
theorem g_f5:G_f5 Ev:={ is:=is_W rfl,c_f21:=g_f21,c_f25:=g_f25 }
theorem Qaa1:G_f116 Ev:={ is:=is_W rfl }
theorem Qaav:G_f110 Ev:={ is:=is_W rfl,c_f116:=Qaa1 }
theorem Qaa2:G_f117 Ev:={ is:=is_W rfl }
theorem g_f8:G_f8 Ev:={ is:=is_W rfl }
theorem g_f7:G_f7 Ev:={ is:=is_W rfl,c_f117:=Qaa2,c_f8:=g_f8 }
theorem g_f6:G_f6 Ev:={ is:=is_W rfl,c_f7:=g_f7 }
theorem g_f17:G_f17 Ev:={ is:=is_W rfl,c_f6:=g_f6 }
theorem Qaa3:G_f118 Ev:={ is:=is_W rfl }
theorem Qaaw:G_f111 Ev:={ is:=is_W rfl,c_f118:=Qaa3 }
theorem g_f18:G_f18 Ev:={ is:=is_W rfl,c_f6:=g_f6 }
theorem g_f16:G_f16 Ev:={ is:=is_W rfl,c_f19:=g_f19,c_f3:=g_f3,c_f4:=g_f4,c_f32:=g_f32,c_f24:=g_f24,c_f5:=g_f5,c_f110:=Qaav,c_f17:=g_f17,c_f111:=Qaaw,c_f18:=g_f18 }
theorem g_f12:G_f12 Ev:={ is:=is_W rfl,c_f0:=g_f0 }
theorem Qoa:IsStab Ev 472 471 4 key1 isEnt:=Qab2 rfl
theorem g_f28:G_f28 Ev:={ is:=is_W rfl,c_f107:=Qaas,c_f108:=Qaat }
theorem g_f11:G_f11 Ev:={ is:=is_W rfl,c_f16:=g_f16,c_f12:=g_f12,c_f28:=g_f28,c_slices_SortStableFunc_g472:=Qoa }
theorem g_f48:G_f48 Ev:={ is:=is_W rfl }
theorem g_f49:G_f49 Ev:={ is:=is_W rfl,c_f48:=g_f48 }
theorem g_f50:G_f50 Ev:={ is:=is_W rfl,c_f49:=g_f49 }
theorem g_f45:G_f45 Ev:={ is:=is_W rfl,c_f50:=g_f50 }
theorem g_f46:G_f46 Ev:={ is:=is_W rfl,c_f44:=g_f44,c_f54:=g_f54 }
theorem g_f47:G_f47 Ev:={ is:=is_W rfl,c_f46:=g_f46 }
theorem g_f41:G_f41 Ev:={ is:=is_W rfl }
theorem g_f42:G_f42 Ev:={ is:=is_W rfl,c_f41:=g_f41 }
theorem g_f51:G_f51 Ev:={ is:=is_W rfl }
theorem g_f52:G_f52 Ev:={ is:=is_W rfl,c_f51:=g_f51 }
theorem g_f38:G_f38 Ev:={ is:=is_W rfl,c_f45:=g_f45,c_f47:=g_f47,c_f42:=g_f42,c_f52:=g_f52 }
theorem g_f56:G_f56 Ev:={ is:=is_W rfl }
theorem g_f57:G_f57 Ev:={ is:=is_W rfl }
theorem g_f55:G_f55 Ev:={ is:=is_W rfl,c_f56:=g_f56,c_f57:=g_f57 }
theorem Qaan:G_f100 Ev:={ is:=is_W rfl,c_f96:=g_f96 }
theorem g_f99:G_f99 Ev:={ is:=is_W rfl,c_f100:=Qaan }
theorem g_f91:G_f91 Ev:={ is:=is_W rfl,c_f99:=g_f99 }
theorem g_f89:G_f89 Ev:={ is:=is_W rfl,c_f87:=g_f87 }
theorem Qaar:G_f106 Ev:={ is:=is_W rfl,c_f104:=Qn8 }
theorem g_f95:G_f95 Ev:={ is:=is_W rfl,c_f89:=g_f89,c_f106:=Qaar }
theorem g_f94:G_f94 Ev:={ is:=is_W rfl,c_f95:=g_f95 }
theorem g_f86:G_f86 Ev:={ is:=is_W rfl,c_f84:=g_f84 }
theorem Qaap:G_f103 Ev:={ is:=is_W rfl,c_f101:=Qn7 }
theorem g_f79:G_f79 Ev:={ is:=is_W rfl,c_f91:=g_f91,c_f94:=g_f94,c_f86:=g_f86,c_f103:=Qaap }
theorem g_f13:G_f13 Ev:={ is:=is_W rfl,c_f16:=g_f16,c_f12:=g_f12,c_f28:=g_f28,c_slices_SortStableFunc_g472:=Qoa }
theorem g_f60:G_f60 Ev:={ is:=is_W rfl }
theorem g_f65:G_f65 Ev:={ is:=is_W rfl }
theorem g_f58:G_f58 Ev:={ is:=is_W rfl,c_f60:=g_f60,c_f65:=g_f65 }
theorem g_f61:G_f61 Ev:={ is:=is_W rfl,c_f60:=g_f60,c_f65:=g_f65 }
theorem g_f59:G_f59 Ev:={ is:=is_W rfl }
theorem g_f64:G_f64 Ev:={ is:=is_W rfl }
theorem g_f63:G_f63 Ev:={ is:=is_W rfl }
theorem g_f62:G_f62 Ev:={ is:=is_W rfl,c_f63:=g_f63 }
theorem g_f37:G_f37 Ev:={ is:=is_W rfl,c_f40:=g_f40,c_f66:=g_f66,c_f123:=Qaa8,c_f78:=g_f78,c_f11:=g_f11,c_f38:=g_f38,c_f55:=g_f55,c_f79:=g_f79,c_f13:=g_f13,c_f58:=g_f58,c_f61:=g_f61,c_f59:=g_f59,c_f64:=g_f64,c_f62:=g_f62 }
end Go.Proofs.YtlgblpngiamhaaaGreat.Am.FnExactHistoryOf
