import Derived.Test.YtboenehajoaahaaChecked
import Derived.KernelRfl
import Derived.Test.YtboenehajoaahaaAmW
import Derived.Test.YtboenehajoaahaaForgetAbortedF0
import Derived.Test.YtboenehajoaahaaForgetAbortedF1
import Derived.Test.YtboenehajoaahaaAmCl
import Derived.Test.YtboenehajoaahaaForgetAbortedP0
namespace Go.Proofs.Ytboenehajoaahaa.Am.FnExactForgetAborted
open Go Go.Proofs
set_option linter.unusedVariables false
set_option maxRecDepth 100000
def rho (m : Nat) : FuncId := match [(23, 61), (24, 60), (27, 65), (28, 64), (29, 75), (30, 76), (33, 71), (34, 70), (35, 78), (36, 79), (92, 57), (93, 17), (97, 24), (99, 11), (100, 36), (101, 59), (107, 40), (108, 63), (109, 74), (118, 49), (119, 69), (120, 77), (124, 6), (125, 8), (128, 4), (129, 14), (130, 13), (131, 12), (132, 37), (142, 20), (143, 19), (144, 18), (145, 41), (146, 42), (147, 43), (172, 48), (174, 27), (175, 26), (176, 25), (177, 50), (178, 51), (179, 52), (206, 32), (223, 66), (224, 67), (225, 68), (233, 56), (234, 73), (235, 58), (319, 10), (320, 35), (321, 34), (322, 33), (341, 3), (342, 7), (345, 23), (348, 45), (349, 46), (100027, 65), (100028, 64), (100093, 17), (100107, 40), (100108, 63), (100124, 6), (100142, 20), (100143, 19), (100144, 18), (100145, 41), (100211, 38), (100212, 16), (100217, 62), (100221, 44), (100222, 47), (100223, 66), (100224, 67), (100225, 68), (100342, 7), (100343, 5), (100344, 15), (100347, 21), (100348, 45), (100349, 46), (100473, 39), (200095, 54), (200121, 53), (200122, 72), (200232, 55), (200316, 31), (200317, 30), (200318, 29), (300346, 22)].lookup m with | some f => f | none => 0
theorem Qsw : matchFn Try.prog rho 101 2 f45_ac [(4, none)] = true := by kernel_rfl
theorem Qsy : matchFn Try.prog rho 100 2 f46_ac [(4, none)] = true := by kernel_rfl
theorem Qsr : matchFn Try.prog rho 99 2 f42_ac [(4, none)] = true := by kernel_rfl
theorem Qsp : matchFn Try.prog rho 24 2 f41_ac [(4, none)] = true := by kernel_rfl
theorem Qs2 : matchFn Try.prog rho 23 2 f48_ac [(4, none)] = true := by kernel_rfl
theorem Qss : matchFn Try.prog rho 132 2 f43_ac [(4, none)] = true := by kernel_rfl
theorem Qsu : matchFn Try.prog rho 131 2 f44_ac [(4, none)] = true := by kernel_rfl
theorem Qsn : matchFn Try.prog rho 130 2 f40_ac [(4, none)] = true := by kernel_rfl
theorem Qs0 : matchFn Try.prog rho 129 2 f47_ac [(4, none)] = true := by kernel_rfl
theorem Qsk : matchFn Try.prog rho 128 2 f39_ac [(4, none)] = true := by kernel_rfl
theorem Qtv : matchFn Try.prog rho 109 1 f63_ac [(2, some (true, 5))] = true := by kernel_rfl
theorem Qty : matchFn Try.prog rho 108 1 f64_ac [(2, none)] = true := by kernel_rfl
theorem Qt0 : matchFn Try.prog rho 107 1 f65_ac [(2, none)] = true := by kernel_rfl
theorem Qtk : matchFn Try.prog rho 93 1 f57_ac [(2, some (true, 1))] = true := by kernel_rfl
theorem Qte : matchFn Try.prog rho 29 1 f54_ac [(2, some (true, 2))] = true := by kernel_rfl
theorem Qtg : matchFn Try.prog rho 28 1 f55_ac [(2, none)] = true := by kernel_rfl
theorem Qua : matchFn Try.prog rho 30 1 f71_ac [(2, some (true, 2))] = true := by kernel_rfl
theorem Quc : matchFn Try.prog rho 27 1 f72_ac [(2, none)] = true := by kernel_rfl
theorem Qto : matchFn Try.prog rho 145 1 f59_ac [(2, some (true, 9))] = true := by kernel_rfl
theorem Qtq : matchFn Try.prog rho 144 1 f60_ac [(2, none)] = true := by kernel_rfl
theorem Qs9 : matchFn Try.prog rho 146 1 f51_ac [(2, some (true, 2))] = true := by kernel_rfl
theorem Qtb : matchFn Try.prog rho 143 1 f52_ac [(2, none)] = true := by kernel_rfl
theorem Qt4 : matchFn Try.prog rho 147 1 f68_ac [(2, some (true, 2))] = true := by kernel_rfl
theorem Qt6 : matchFn Try.prog rho 142 1 f69_ac [(2, none)] = true := by kernel_rfl
theorem Qs4 : matchFn Try.prog rho 124 1 f49_ac [(2, some (true, 6))] = true := by kernel_rfl
theorem Qr0 : matchFn Try.prog rho 345 1 f2_ac [(2, none)] = true := by kernel_rfl
theorem Qs6 : matchFn Try.prog rho 100221 1 f4_ac [(2, some (true, 1))] = true := by kernel_rfl
theorem Qt7 : matchFn Try.prog rho 100222 1 f6_ac [(2, some (true, 9))] = true := by kernel_rfl
theorem Qq1 : matchFn Try.prog rho 100347 1 f0_ac [(2, some (true, 6))] = true := by kernel_rfl
theorem Qu6 : matchFn Try.prog rho 172 2 f80_ac [(4, none)] = true := by kernel_rfl
theorem Qrh : matchFn Try.prog rho 342 1 f1_ac [(2, some (true, 6))] = true := by kernel_rfl
theorem Qrb : matchFn Try.prog rho 120 2 f16_ac [(4, none)] = true := by kernel_rfl
theorem Qrd : matchFn Try.prog rho 119 2 f17_ac [(4, none)] = true := by kernel_rfl
theorem Qrf : matchFn Try.prog rho 118 2 f18_ac [(4, none)] = true := by kernel_rfl
theorem Qq7 : matchFn Try.prog rho 97 2 f13_ac [(4, none)] = true := by kernel_rfl
theorem Qq4 : matchFn Try.prog rho 35 2 f11_ac [(4, none)] = true := by kernel_rfl
theorem Qq5 : matchFn Try.prog rho 34 2 f12_ac [(4, none)] = true := by kernel_rfl
theorem Qrk : matchFn Try.prog rho 36 2 f21_ac [(4, none)] = true := by kernel_rfl
theorem Qrl : matchFn Try.prog rho 33 2 f22_ac [(4, none)] = true := by kernel_rfl
theorem Qq8 : matchFn Try.prog rho 177 2 f14_ac [(4, none)] = true := by kernel_rfl
theorem Qra : matchFn Try.prog rho 176 2 f15_ac [(4, none)] = true := by kernel_rfl
theorem Qvl : matchFn Try.prog rho 178 2 f9_ac [(4, none)] = true := by kernel_rfl
theorem Qq3 : matchFn Try.prog rho 175 2 f10_ac [(4, none)] = true := by kernel_rfl
theorem Qrg : matchFn Try.prog rho 179 2 f19_ac [(4, none)] = true := by kernel_rfl
theorem Qrj : matchFn Try.prog rho 174 2 f20_ac [(4, none)] = true := by kernel_rfl
theorem Qvk : matchFn Try.prog rho 125 2 f8_ac [(4, none)] = true := by kernel_rfl
theorem Qrx : matchFn Try.prog rho 234 2 f28_ac [(4, none)] = true := by kernel_rfl
theorem Qrz : matchFn Try.prog rho 233 2 f29_ac [(4, none)] = true := by kernel_rfl
theorem Qrt : matchFn Try.prog rho 206 2 f26_ac [(4, none)] = true := by kernel_rfl
theorem Qrr : matchFn Try.prog rho 92 2 f25_ac [(4, none)] = true := by kernel_rfl
theorem Qr4 : matchFn Try.prog rho 235 2 f31_ac [(4, none)] = true := by kernel_rfl
theorem Qrv : matchFn Try.prog rho 322 2 f27_ac [(4, none)] = true := by kernel_rfl
theorem Qrp : matchFn Try.prog rho 321 2 f24_ac [(4, none)] = true := by kernel_rfl
theorem Qr2 : matchFn Try.prog rho 320 2 f30_ac [(4, none)] = true := by kernel_rfl
theorem Qrn : matchFn Try.prog rho 319 2 f23_ac [(4, none)] = true := by kernel_rfl
theorem Qvj : matchFn Try.prog rho 100212 1 f87_ac [(2, some (true, 9))] = true := by kernel_rfl
theorem Qvf : matchFn Try.prog rho 100217 1 f84_ac [(2, none)] = true := by kernel_rfl
theorem Qvi : matchFn Try.prog rho 100211 1 f85_ac [(2, some (true, 1))] = true := by kernel_rfl
theorem Qva : matchFn Try.prog rho 100473 1 f82_ac [(2, none)] = true := by kernel_rfl
theorem Qve : matchFn Try.prog rho 100344 1 f83_ac [(2, some (true, 6))] = true := by kernel_rfl
theorem Qu8 : matchFn Try.prog rho 100343 1 f81_ac [(2, some (true, 6))] = true := by kernel_rfl
theorem Qt3 : matchFn Try.prog rho 100108 1 f67_ac [(2, none)] = true := by kernel_rfl
theorem Qt2 : matchFn Try.prog rho 100107 1 f66_ac [(2, none)] = true := by kernel_rfl
theorem Qtm : matchFn Try.prog rho 100093 1 f58_ac [(2, some (true, 1))] = true := by kernel_rfl
theorem Qti : matchFn Try.prog rho 100028 1 f56_ac [(2, none)] = true := by kernel_rfl
theorem Que : matchFn Try.prog rho 100027 1 f73_ac [(2, none)] = true := by kernel_rfl
theorem Qtu : matchFn Try.prog rho 100145 1 f62_ac [(2, some (true, 9))] = true := by kernel_rfl
theorem Qts : matchFn Try.prog rho 100144 1 f61_ac [(2, none)] = true := by kernel_rfl
theorem Qtd : matchFn Try.prog rho 100143 1 f53_ac [(2, none)] = true := by kernel_rfl
theorem Qt9 : matchFn Try.prog rho 100142 1 f70_ac [(2, none)] = true := by kernel_rfl
theorem Qs8 : matchFn Try.prog rho 100124 1 f50_ac [(2, some (true, 6))] = true := by kernel_rfl
theorem Qsl : matchFn Try.prog rho 100342 1 f3_ac [(2, some (true, 6))] = true := by kernel_rfl
theorem Qr8 : matchFn Try.prog rho 200095 2 f33_ac [(4, none)] = true := by kernel_rfl
theorem Qsi : matchFn Try.prog rho 200232 2 f38_ac [(4, none)] = true := by kernel_rfl
theorem Qr9 : matchFn Try.prog rho 200318 2 f34_ac [(4, none)] = true := by kernel_rfl
theorem Qr6 : matchFn Try.prog rho 200317 2 f32_ac [(4, none)] = true := by kernel_rfl
theorem Qsg : matchFn Try.prog rho 200316 2 f37_ac [(4, none)] = true := by kernel_rfl
theorem Qse : matchFn Try.prog rho 200122 2 f36_ac [(4, none)] = true := by kernel_rfl
theorem Qsc : matchFn Try.prog rho 200121 2 f35_ac [(4, none)] = true := by kernel_rfl
theorem Qu5 : matchFn Try.prog rho 341 1 f7_ac [(2, none)] = true := by kernel_rfl
theorem Qu4 : matchFn Try.prog rho 300346 2 f79_ac [(4, none)] = true := by kernel_rfl
def tbl : List (Nat × Fn) := [(101, ⟨2, f45_ac, [(4, none)]⟩),
  (100, ⟨2, f46_ac, [(4, none)]⟩),
  (99, ⟨2, f42_ac, [(4, none)]⟩),
  (24, ⟨2, f41_ac, [(4, none)]⟩),
  (23, ⟨2, f48_ac, [(4, none)]⟩),
  (132, ⟨2, f43_ac, [(4, none)]⟩),
  (131, ⟨2, f44_ac, [(4, none)]⟩),
  (130, ⟨2, f40_ac, [(4, none)]⟩),
  (129, ⟨2, f47_ac, [(4, none)]⟩),
  (128, ⟨2, f39_ac, [(4, none)]⟩),
  (109, ⟨1, f63_ac, [(2, some (true, 5))]⟩),
  (108, ⟨1, f64_ac, [(2, none)]⟩),
  (107, ⟨1, f65_ac, [(2, none)]⟩),
  (93, ⟨1, f57_ac, [(2, some (true, 1))]⟩),
  (29, ⟨1, f54_ac, [(2, some (true, 2))]⟩),
  (28, ⟨1, f55_ac, [(2, none)]⟩),
  (30, ⟨1, f71_ac, [(2, some (true, 2))]⟩),
  (27, ⟨1, f72_ac, [(2, none)]⟩),
  (145, ⟨1, f59_ac, [(2, some (true, 9))]⟩),
  (144, ⟨1, f60_ac, [(2, none)]⟩),
  (146, ⟨1, f51_ac, [(2, some (true, 2))]⟩),
  (143, ⟨1, f52_ac, [(2, none)]⟩),
  (147, ⟨1, f68_ac, [(2, some (true, 2))]⟩),
  (142, ⟨1, f69_ac, [(2, none)]⟩),
  (124, ⟨1, f49_ac, [(2, some (true, 6))]⟩),
  (345, ⟨1, f2_ac, [(2, none)]⟩),
  (100221, ⟨1, f4_ac, [(2, some (true, 1))]⟩),
  (100222, ⟨1, f6_ac, [(2, some (true, 9))]⟩),
  (100347, ⟨1, f0_ac, [(2, some (true, 6))]⟩),
  (172, ⟨2, f80_ac, [(4, none)]⟩),
  (342, ⟨1, f1_ac, [(2, some (true, 6))]⟩),
  (120, ⟨2, f16_ac, [(4, none)]⟩),
  (119, ⟨2, f17_ac, [(4, none)]⟩),
  (118, ⟨2, f18_ac, [(4, none)]⟩),
  (97, ⟨2, f13_ac, [(4, none)]⟩),
  (35, ⟨2, f11_ac, [(4, none)]⟩),
  (34, ⟨2, f12_ac, [(4, none)]⟩),
  (36, ⟨2, f21_ac, [(4, none)]⟩),
  (33, ⟨2, f22_ac, [(4, none)]⟩),
  (177, ⟨2, f14_ac, [(4, none)]⟩),
  (176, ⟨2, f15_ac, [(4, none)]⟩),
  (178, ⟨2, f9_ac, [(4, none)]⟩),
  (175, ⟨2, f10_ac, [(4, none)]⟩),
  (179, ⟨2, f19_ac, [(4, none)]⟩),
  (174, ⟨2, f20_ac, [(4, none)]⟩),
  (125, ⟨2, f8_ac, [(4, none)]⟩),
  (234, ⟨2, f28_ac, [(4, none)]⟩),
  (233, ⟨2, f29_ac, [(4, none)]⟩),
  (206, ⟨2, f26_ac, [(4, none)]⟩),
  (92, ⟨2, f25_ac, [(4, none)]⟩),
  (235, ⟨2, f31_ac, [(4, none)]⟩),
  (322, ⟨2, f27_ac, [(4, none)]⟩),
  (321, ⟨2, f24_ac, [(4, none)]⟩),
  (320, ⟨2, f30_ac, [(4, none)]⟩),
  (319, ⟨2, f23_ac, [(4, none)]⟩),
  (100212, ⟨1, f87_ac, [(2, some (true, 9))]⟩),
  (100217, ⟨1, f84_ac, [(2, none)]⟩),
  (100211, ⟨1, f85_ac, [(2, some (true, 1))]⟩),
  (100473, ⟨1, f82_ac, [(2, none)]⟩),
  (100344, ⟨1, f83_ac, [(2, some (true, 6))]⟩),
  (100343, ⟨1, f81_ac, [(2, some (true, 6))]⟩),
  (100108, ⟨1, f67_ac, [(2, none)]⟩),
  (100107, ⟨1, f66_ac, [(2, none)]⟩),
  (100093, ⟨1, f58_ac, [(2, some (true, 1))]⟩),
  (100028, ⟨1, f56_ac, [(2, none)]⟩),
  (100027, ⟨1, f73_ac, [(2, none)]⟩),
  (100145, ⟨1, f62_ac, [(2, some (true, 9))]⟩),
  (100144, ⟨1, f61_ac, [(2, none)]⟩),
  (100143, ⟨1, f53_ac, [(2, none)]⟩),
  (100142, ⟨1, f70_ac, [(2, none)]⟩),
  (100124, ⟨1, f50_ac, [(2, some (true, 6))]⟩),
  (100342, ⟨1, f3_ac, [(2, some (true, 6))]⟩),
  (200095, ⟨2, f33_ac, [(4, none)]⟩),
  (200232, ⟨2, f38_ac, [(4, none)]⟩),
  (200318, ⟨2, f34_ac, [(4, none)]⟩),
  (200317, ⟨2, f32_ac, [(4, none)]⟩),
  (200316, ⟨2, f37_ac, [(4, none)]⟩),
  (200122, ⟨2, f36_ac, [(4, none)]⟩),
  (200121, ⟨2, f35_ac, [(4, none)]⟩),
  (341, ⟨1, f7_ac, [(2, none)]⟩)]
theorem Qo8 : AllMatch Try.prog rho tbl := ⟨Qsw, Qsy, Qsr, Qsp, Qs2, Qss, Qsu, Qsn, Qs0, Qsk, Qtv, Qty, Qt0, Qtk, Qte, Qtg, Qua, Quc, Qto, Qtq, Qs9, Qtb, Qt4, Qt6, Qs4, Qr0, Qs6, Qt7, Qq1, Qu6, Qrh, Qrb, Qrd, Qrf, Qq7, Qq4, Qq5, Qrk, Qrl, Qq8, Qra, Qvl, Qq3, Qrg, Qrj, Qvk, Qrx, Qrz, Qrt, Qrr, Qr4, Qrv, Qrp, Qr2, Qrn, Qvj, Qvf, Qvi, Qva, Qve, Qu8, Qt3, Qt2, Qtm, Qti, Que, Qtu, Qts, Qtd, Qt9, Qs8, Qsl, Qr8, Qsi, Qr9, Qr6, Qsg, Qse, Qsc, Qu5, trivial⟩
theorem Qux : matchFn Try.prog rho 348 1 f77_ac [(2, none)] = true := by kernel_rfl
theorem Quw : matchFn Try.prog rho (100000 + 348) 1 f77_ac [(2, none)] = true := by kernel_rfl
theorem Qun : matchFn Try.prog rho 224 1 f75_ac [(2, none)] = true := by kernel_rfl
theorem Qum : matchFn Try.prog rho (100000 + 224) 1 f75_ac [(2, none)] = true := by kernel_rfl
theorem Qui : matchFn Try.prog rho 223 1 f74_ac [(2, none)] = true := by kernel_rfl
theorem Quh : matchFn Try.prog rho (100000 + 223) 1 f74_ac [(2, none)] = true := by kernel_rfl
theorem Qu2 : matchFn Try.prog rho 349 1 f78_ac [(2, none)] = true := by kernel_rfl
theorem Qu1 : matchFn Try.prog rho (100000 + 349) 1 f78_ac [(2, none)] = true := by kernel_rfl
theorem Qus : matchFn Try.prog rho 225 1 f76_ac [(2, none)] = true := by kernel_rfl
theorem Qur : matchFn Try.prog rho (100000 + 225) 1 f76_ac [(2, none)] = true := by kernel_rfl
def ctbl : List (Nat × Nat × Nat × AC) := [(348, 2, 16, f77_ac), (224, 2, 16, f75_ac), (223, 5, 40, f74_ac), (349, 2, 16, f78_ac), (225, 2, 16, f76_ac)]
theorem Qiq : CloneAll Try.prog rho ctbl := ⟨by decide, Qux, Quw, Quy, by decide, Qun, Qum, Quo, by decide, Qui, Quh, Quj, by decide, Qu2, Qu1, Qu3, by decide, Qus, Qur, Qut, trivial⟩
def tbl1 : List (Nat × Fn) := (300346, ⟨2, f79_ac, [(4, none)]⟩) :: tbl
theorem Qaae : AllMatch Try.prog rho tbl1 := ⟨Qu4, Qo8⟩
noncomputable abbrev E1 : Env := EnvW (cloneE ctbl) (look tbl1)
theorem good1 : Good Try.prog rho E1 := Qmf (Qhu Qaae) (by kernel_rfl) (Qmg (by kernel_rfl) Qiq)
theorem Qv3 : G_f80 E1 := { is := is_W rfl }
theorem Qv2 : G_f79 E1 := { is := is_W rfl, c_f80 := Qv3 }
theorem g1_f2 : G_f2 E1 := { is := is_W rfl }
noncomputable abbrev Ev : Env := EnvW (delE (300000 + 346) 345 9 1048576 isTx9 isAb9 (cloneE ctbl)) (look tbl)
theorem good : Good Try.prog rho Ev := Qmf (Qhu Qo8) (by kernel_rfl) (Qv7 good1 (Qmg (by kernel_rfl) Qiq) (by decide) (Qqd Qv2 g1_f2) Qaah)
theorem g_f77 : IsClone Ev 348 2 16 := Qdu (by decide) (by decide) rfl rfl rfl
theorem g_f75 : IsClone Ev 224 2 16 := Qdu (by decide) (by decide) rfl rfl rfl
theorem g_f74 : IsClone Ev 223 5 40 := Qdu (by decide) (by decide) rfl rfl rfl
theorem g_f78 : IsClone Ev 349 2 16 := Qdu (by decide) (by decide) rfl rfl rfl
theorem g_f76 : IsClone Ev 225 2 16 := Qdu (by decide) (by decide) rfl rfl rfl
theorem g_f79 : IsDel Ev 346 345 9 1048576 isTx9 isAb9 := Qwb rfl
theorem g_f45 : G_f45 Ev := { is := is_W rfl }
theorem g_f46 : G_f46 Ev := { is := is_W rfl, c_f45 := g_f45 }
theorem g_f42 : G_f42 Ev := { is := is_W rfl, c_f46 := g_f46 }
theorem g_f41 : G_f41 Ev := { is := is_W rfl }
theorem g_f48 : G_f48 Ev := { is := is_W rfl }
theorem g_f43 : G_f43 Ev := { is := is_W rfl, c_f41 := g_f41, c_f48 := g_f48 }
theorem g_f44 : G_f44 Ev := { is := is_W rfl, c_f43 := g_f43 }
theorem g_f40 : G_f40 Ev := { is := is_W rfl }
theorem g_f47 : G_f47 Ev := { is := is_W rfl }
theorem g_f39 : G_f39 Ev := { is := is_W rfl, c_f42 := g_f42, c_f44 := g_f44, c_f40 := g_f40, c_f47 := g_f47 }
theorem g_f63 : G_f63 Ev := { is := is_W rfl }
theorem g_f64 : G_f64 Ev := { is := is_W rfl, c_f63 := g_f63 }
theorem g_f65 : G_f65 Ev := { is := is_W rfl, c_f64 := g_f64 }
theorem g_f57 : G_f57 Ev := { is := is_W rfl, c_f65 := g_f65 }
theorem g_f54 : G_f54 Ev := { is := is_W rfl }
theorem g_f55 : G_f55 Ev := { is := is_W rfl, c_f54 := g_f54 }
theorem g_f71 : G_f71 Ev := { is := is_W rfl }
theorem g_f72 : G_f72 Ev := { is := is_W rfl, c_f71 := g_f71 }
theorem g_f59 : G_f59 Ev := { is := is_W rfl, c_f55 := g_f55, c_f72 := g_f72 }
theorem g_f60 : G_f60 Ev := { is := is_W rfl, c_f59 := g_f59 }
theorem g_f51 : G_f51 Ev := { is := is_W rfl }
theorem g_f52 : G_f52 Ev := { is := is_W rfl, c_f51 := g_f51 }
theorem g_f68 : G_f68 Ev := { is := is_W rfl }
theorem g_f69 : G_f69 Ev := { is := is_W rfl, c_f68 := g_f68 }
theorem g_f49 : G_f49 Ev := { is := is_W rfl, c_f57 := g_f57, c_f60 := g_f60, c_f52 := g_f52, c_f69 := g_f69 }
theorem g_f2 : G_f2 Ev := { is := is_W rfl }
theorem g_f4 : G_f4 Ev := { is := is_W rfl, c_f74 := g_f74 }
theorem g_f6 : G_f6 Ev := { is := is_W rfl, c_f75 := g_f75, c_f76 := g_f76 }
theorem g_f0 : G_f0 Ev := { is := is_W rfl, c_f4 := g_f4, c_f6 := g_f6, c_f77 := g_f77, c_f78 := g_f78 }
theorem g_f80 : G_f80 Ev := { is := is_W rfl }
theorem g_f1 : G_f1 Ev := { is := is_W rfl, c_f2 := g_f2, c_f0 := g_f0, c_f79 := g_f79 }
theorem g_f16 : G_f16 Ev := { is := is_W rfl }
theorem g_f17 : G_f17 Ev := { is := is_W rfl, c_f16 := g_f16 }
theorem g_f18 : G_f18 Ev := { is := is_W rfl, c_f17 := g_f17 }
theorem g_f13 : G_f13 Ev := { is := is_W rfl, c_f18 := g_f18 }
theorem g_f11 : G_f11 Ev := { is := is_W rfl }
theorem g_f12 : G_f12 Ev := { is := is_W rfl, c_f11 := g_f11 }
theorem g_f21 : G_f21 Ev := { is := is_W rfl }
theorem g_f22 : G_f22 Ev := { is := is_W rfl, c_f21 := g_f21 }
theorem g_f14 : G_f14 Ev := { is := is_W rfl, c_f12 := g_f12, c_f22 := g_f22 }
theorem g_f15 : G_f15 Ev := { is := is_W rfl, c_f14 := g_f14 }
theorem g_f9 : G_f9 Ev := { is := is_W rfl }
theorem g_f10 : G_f10 Ev := { is := is_W rfl, c_f9 := g_f9 }
theorem g_f19 : G_f19 Ev := { is := is_W rfl }
theorem g_f20 : G_f20 Ev := { is := is_W rfl, c_f19 := g_f19 }
theorem g_f8 : G_f8 Ev := { is := is_W rfl, c_f13 := g_f13, c_f15 := g_f15, c_f10 := g_f10, c_f20 := g_f20 }
theorem g_f28 : G_f28 Ev := { is := is_W rfl }
theorem g_f29 : G_f29 Ev := { is := is_W rfl, c_f28 := g_f28 }
theorem g_f26 : G_f26 Ev := { is := is_W rfl, c_f29 := g_f29 }
theorem g_f25 : G_f25 Ev := { is := is_W rfl }
theorem g_f31 : G_f31 Ev := { is := is_W rfl }
theorem g_f27 : G_f27 Ev := { is := is_W rfl, c_f25 := g_f25, c_f31 := g_f31 }
theorem g_f24 : G_f24 Ev := { is := is_W rfl }
theorem g_f30 : G_f30 Ev := { is := is_W rfl }
theorem g_f23 : G_f23 Ev := { is := is_W rfl, c_f26 := g_f26, c_f27 := g_f27, c_f24 := g_f24, c_f30 := g_f30 }
theorem g_f87 : G_f87 Ev := { is := is_W rfl }
theorem g_f84 : G_f84 Ev := { is := is_W rfl }
theorem g_f85 : G_f85 Ev := { is := is_W rfl, c_f84 := g_f84 }
theorem g_f82 : G_f82 Ev := { is := is_W rfl }
theorem g_f83 : G_f83 Ev := { is := is_W rfl, c_f87 := g_f87, c_f85 := g_f85, c_f82 := g_f82 }
theorem g_f81 : G_f81 Ev := { is := is_W rfl, c_f83 := g_f83, c_f87 := g_f87 }
theorem g_f67 : G_f67 Ev := { is := is_W rfl, c_f63 := g_f63 }
theorem g_f66 : G_f66 Ev := { is := is_W rfl, c_f67 := g_f67 }
theorem g_f58 : G_f58 Ev := { is := is_W rfl, c_f66 := g_f66 }
theorem g_f56 : G_f56 Ev := { is := is_W rfl, c_f54 := g_f54 }
theorem g_f73 : G_f73 Ev := { is := is_W rfl, c_f71 := g_f71 }
theorem g_f62 : G_f62 Ev := { is := is_W rfl, c_f56 := g_f56, c_f73 := g_f73 }
theorem g_f61 : G_f61 Ev := { is := is_W rfl, c_f62 := g_f62 }
theorem g_f53 : G_f53 Ev := { is := is_W rfl, c_f51 := g_f51 }
theorem g_f70 : G_f70 Ev := { is := is_W rfl, c_f68 := g_f68 }
theorem g_f50 : G_f50 Ev := { is := is_W rfl, c_f58 := g_f58, c_f61 := g_f61, c_f53 := g_f53, c_f70 := g_f70 }
theorem g_f3 : G_f3 Ev := { is := is_W rfl, c_f2 := g_f2, c_f0 := g_f0, c_f79 := g_f79 }
theorem g_f33 : G_f33 Ev := { is := is_W rfl }
theorem g_f38 : G_f38 Ev := { is := is_W rfl }
theorem g_f34 : G_f34 Ev := { is := is_W rfl, c_f33 := g_f33, c_f38 := g_f38 }
theorem g_f32 : G_f32 Ev := { is := is_W rfl }
theorem g_f37 : G_f37 Ev := { is := is_W rfl }
theorem g_f36 : G_f36 Ev := { is := is_W rfl }
theorem g_f35 : G_f35 Ev := { is := is_W rfl, c_f36 := g_f36 }
theorem g_f7 : G_f7 Ev := { is := is_W rfl, c_f39 := g_f39, c_f49 := g_f49, c_f1 := g_f1, c_f8 := g_f8, c_f23 := g_f23, c_f81 := g_f81, c_f50 := g_f50, c_f3 := g_f3, c_f34 := g_f34, c_f32 := g_f32, c_f37 := g_f37, c_f35 := g_f35 }
end Go.Proofs.Ytboenehajoaahaa.Am.FnExactForgetAborted
