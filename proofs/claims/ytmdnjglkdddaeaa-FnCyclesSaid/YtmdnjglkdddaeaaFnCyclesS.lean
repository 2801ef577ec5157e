import Derived.Test.YtmdnjglkdddaeaaChecked
import Derived.KernelRfl
import Derived.Test.YtmdnjglkdddaeaaAmW
import Derived.Test.YtmdnjglkdddaeaaFnCyclesF0
namespace Go.Proofs.Ytmdnjglkdddaeaa.Am.FnCycles
open Go Go.Proofs
set_option linter.unusedVariables false
set_option maxRecDepth 100000
def rho (m : Nat) : FuncId := match [(3, 26), (4, 32), (6, 71), (7, 72), (9, 36), (10, 66), (11, 67), (12, 68), (13, 99), (14, 98), (15, 115), (38, 14), (39, 29), (40, 30), (41, 27), (42, 35), (43, 73), (60, 13), (61, 16), (62, 31), (63, 28), (64, 70), (65, 69), (66, 33), (78, 10), (79, 11), (80, 9), (81, 7), (84, 12), (88, 34), (409, 3), (410, 15), (411, 8), (412, 6), (413, 5), (419, 37), (100080, 9), (300356, 64), (400415, 24), (400416, 63), (400417, 65), (400418, 97)].lookup m with | some f => f | none => 0
theorem f18_match : matchFn Try.prog rho 413 1 f18_ac [(2, none)] = true := by kernel_rfl
theorem f34_match : matchFn Try.prog rho 7 2 f34_ac [(4, none)] = true := by kernel_rfl
theorem f35_match : matchFn Try.prog rho 300356 2 f35_ac [(4, none)] = true := by kernel_rfl
theorem f37_match : matchFn Try.prog rho 400418 1 f37_ac [(2, none)] = true := by kernel_rfl
theorem f36_match : matchFn Try.prog rho 400416 2 f36_ac [(4, none)] = true := by kernel_rfl
theorem f39_match : matchFn Try.prog rho 400417 2 f39_ac [(4, none)] = true := by kernel_rfl
theorem f33_match : matchFn Try.prog rho 400415 1 f33_ac [(2, none)] = true := by kernel_rfl
theorem f27_match : matchFn Try.prog rho 412 1 f27_ac [(2, none)] = true := by kernel_rfl
theorem f14_match : matchFn Try.prog rho 10 3 f14_ac [(6, none)] = true := by kernel_rfl
theorem f15_match : matchFn Try.prog rho 9 1 f15_ac [(2, none)] = true := by kernel_rfl
theorem f16_match : matchFn Try.prog rho 11 1 f16_ac [(2, none)] = true := by kernel_rfl
theorem f1_match : matchFn Try.prog rho 14 1 f1_ac [(2, none)] = true := by kernel_rfl
theorem f2_match : matchFn Try.prog rho 15 1 f2_ac [(2, none)] = true := by kernel_rfl
theorem f0_match : matchFn Try.prog rho 13 2 f0_ac [(4, none)] = true := by kernel_rfl
theorem f12_match : matchFn Try.prog rho 12 2 f12_ac [(4, none)] = true := by kernel_rfl
theorem f3_match : matchFn Try.prog rho 3 1 f3_ac [(2, none)] = true := by kernel_rfl
theorem f23_match : matchFn Try.prog rho 43 2 f23_ac [(4, none)] = true := by kernel_rfl
theorem f21_match : matchFn Try.prog rho 42 2 f21_ac [(4, none)] = true := by kernel_rfl
theorem f13_match : matchFn Try.prog rho 41 2 f13_ac [(4, some (true, 10))] = true := by kernel_rfl
theorem f22_match : matchFn Try.prog rho 66 2 f22_ac [(4, none)] = true := by kernel_rfl
theorem f20_match : matchFn Try.prog rho 65 2 f20_ac [(4, none)] = true := by kernel_rfl
theorem f9_match : matchFn Try.prog rho 64 3 f9_ac [(4, none)] = true := by kernel_rfl
theorem f8_match : matchFn Try.prog rho 63 3 f8_ac [(6, none)] = true := by kernel_rfl
theorem f11_match : matchFn Try.prog rho 81 1 f11_ac [(2, none)] = true := by kernel_rfl
theorem f19_match : matchFn Try.prog rho 411 2 f19_ac [(4, none)] = true := by kernel_rfl
theorem f40_match : matchFn Try.prog rho 40 2 f40_ac [(4, none)] = true := by kernel_rfl
theorem f38_match : matchFn Try.prog rho 6 3 f38_ac [(6, none)] = true := by kernel_rfl
theorem f24_match : matchFn Try.prog rho 4 1 f24_ac [(2, none)] = true := by kernel_rfl
theorem f28_match : matchFn Try.prog rho 39 3 f28_ac [(6, none)] = true := by kernel_rfl
theorem f29_match : matchFn Try.prog rho 62 3 f29_ac [(6, none)] = true := by kernel_rfl
theorem f31_match : matchFn Try.prog rho 80 1 f31_ac [(2, none)] = true := by kernel_rfl
theorem f10_match : matchFn Try.prog rho 78 1 f10_ac [(2, none)] = true := by kernel_rfl
theorem f30_match : matchFn Try.prog rho 79 1 f30_ac [(2, none)] = true := by kernel_rfl
theorem f4_match : matchFn Try.prog rho 60 2 f4_ac [(4, none)] = true := by kernel_rfl
theorem f6_match : matchFn Try.prog rho 88 3 f6_ac [(4, none)] = true := by kernel_rfl
theorem f5_match : matchFn Try.prog rho 84 2 f5_ac [(4, none)] = true := by kernel_rfl
theorem f7_match : matchFn Try.prog rho 38 3 f7_ac [(6, none)] = true := by kernel_rfl
theorem f32_match : matchFn Try.prog rho 100080 1 f32_ac [(2, none)] = true := by kernel_rfl
theorem f41_match : matchFn Try.prog rho 419 1 f41_ac [(2, none), (3, none)] = true := by kernel_rfl
theorem f26_match : matchFn Try.prog rho 410 1 f26_ac [(2, none), (3, none)] = true := by kernel_rfl
theorem f25_match : matchFn Try.prog rho 61 2 f25_ac [(4, none)] = true := by kernel_rfl
theorem f17_match : matchFn Try.prog rho 409 1 f17_ac [(2, none)] = true := by kernel_rfl
def tbl : List (Nat × Fn) := [(413, ⟨1, f18_ac, [(2, none)]⟩),
  (7, ⟨2, f34_ac, [(4, none)]⟩),
  (300356, ⟨2, f35_ac, [(4, none)]⟩),
  (400418, ⟨1, f37_ac, [(2, none)]⟩),
  (400416, ⟨2, f36_ac, [(4, none)]⟩),
  (400417, ⟨2, f39_ac, [(4, none)]⟩),
  (400415, ⟨1, f33_ac, [(2, none)]⟩),
  (412, ⟨1, f27_ac, [(2, none)]⟩),
  (10, ⟨3, f14_ac, [(6, none)]⟩),
  (9, ⟨1, f15_ac, [(2, none)]⟩),
  (11, ⟨1, f16_ac, [(2, none)]⟩),
  (14, ⟨1, f1_ac, [(2, none)]⟩),
  (15, ⟨1, f2_ac, [(2, none)]⟩),
  (13, ⟨2, f0_ac, [(4, none)]⟩),
  (12, ⟨2, f12_ac, [(4, none)]⟩),
  (3, ⟨1, f3_ac, [(2, none)]⟩),
  (43, ⟨2, f23_ac, [(4, none)]⟩),
  (42, ⟨2, f21_ac, [(4, none)]⟩),
  (41, ⟨2, f13_ac, [(4, some (true, 10))]⟩),
  (66, ⟨2, f22_ac, [(4, none)]⟩),
  (65, ⟨2, f20_ac, [(4, none)]⟩),
  (64, ⟨3, f9_ac, [(4, none)]⟩),
  (63, ⟨3, f8_ac, [(6, none)]⟩),
  (81, ⟨1, f11_ac, [(2, none)]⟩),
  (411, ⟨2, f19_ac, [(4, none)]⟩),
  (40, ⟨2, f40_ac, [(4, none)]⟩),
  (6, ⟨3, f38_ac, [(6, none)]⟩),
  (4, ⟨1, f24_ac, [(2, none)]⟩),
  (39, ⟨3, f28_ac, [(6, none)]⟩),
  (62, ⟨3, f29_ac, [(6, none)]⟩),
  (80, ⟨1, f31_ac, [(2, none)]⟩),
  (78, ⟨1, f10_ac, [(2, none)]⟩),
  (79, ⟨1, f30_ac, [(2, none)]⟩),
  (60, ⟨2, f4_ac, [(4, none)]⟩),
  (88, ⟨3, f6_ac, [(4, none)]⟩),
  (84, ⟨2, f5_ac, [(4, none)]⟩),
  (38, ⟨3, f7_ac, [(6, none)]⟩),
  (100080, ⟨1, f32_ac, [(2, none)]⟩),
  (419, ⟨1, f41_ac, [(2, none), (3, none)]⟩),
  (410, ⟨1, f26_ac, [(2, none), (3, none)]⟩),
  (61, ⟨2, f25_ac, [(4, none)]⟩),
  (409, ⟨1, f17_ac, [(2, none)]⟩)]
theorem tbl_all : AllMatch Try.prog rho tbl := ⟨f18_match, f34_match, f35_match, f37_match, f36_match, f39_match, f33_match, f27_match, f14_match, f15_match, f16_match, f1_match, f2_match, f0_match, f12_match, f3_match, f23_match, f21_match, f13_match, f22_match, f20_match, f9_match, f8_match, f11_match, f19_match, f40_match, f38_match, f24_match, f28_match, f29_match, f31_match, f10_match, f30_match, f4_match, f6_match, f5_match, f7_match, f32_match, f41_match, f26_match, f25_match, f17_match, trivial⟩
noncomputable abbrev Ev : Env := EnvW noEnv (look tbl)
theorem good : Good Try.prog rho Ev := good_W (tbl_ok tbl_all) (by kernel_rfl) good_no
theorem g_f18 : G_f18 Ev := { is := is_W rfl }
theorem g_f34 : G_f34 Ev := { is := is_W rfl }
theorem g_f35 : G_f35 Ev := { is := is_W rfl, c_f34 := g_f34 }
theorem g_f37 : G_f37 Ev := { is := is_W rfl }
theorem g_f36 : G_f36 Ev := { is := is_W rfl, c_f37 := g_f37 }
theorem g_f39 : G_f39 Ev := { is := is_W rfl, c_f36 := g_f36 }
theorem g_f33 : G_f33 Ev := { is := is_W rfl, c_f35 := g_f35, c_f36 := g_f36, c_f39 := g_f39 }
theorem g_f27 : G_f27 Ev := { is := is_W rfl, c_f33 := g_f33 }
theorem g_f14 : G_f14 Ev := { is := is_W rfl }
theorem g_f15 : G_f15 Ev := { is := is_W rfl, c_f14 := g_f14 }
theorem g_f16 : G_f16 Ev := { is := is_W rfl, c_f14 := g_f14 }
theorem g_f1 : G_f1 Ev := { is := is_W rfl }
theorem g_f2 : G_f2 Ev := { is := is_W rfl }
theorem g_f0 : G_f0 Ev := { is := is_W rfl, c_f2 := g_f2 }
theorem g_f12 : G_f12 Ev := { is := is_W rfl, c_f1 := g_f1, c_f0 := g_f0 }
theorem g_f3 : G_f3 Ev := { is := is_W rfl, c_f15 := g_f15, c_f14 := g_f14, c_f16 := g_f16, c_f12 := g_f12 }
theorem g_f23 : G_f23 Ev := { is := is_W rfl }
theorem g_f21 : G_f21 Ev := { is := is_W rfl, c_f23 := g_f23 }
theorem g_f13 : G_f13 Ev := { is := is_W rfl, c_f21 := g_f21 }
theorem g_f22 : G_f22 Ev := { is := is_W rfl }
theorem g_f20 : G_f20 Ev := { is := is_W rfl, c_f22 := g_f22 }
theorem g_f9 : G_f9 Ev := { is := is_W rfl }
theorem g_f8 : G_f8 Ev := { is := is_W rfl, c_f20 := g_f20, c_f9 := g_f9 }
theorem g_f11 : G_f11 Ev := { is := is_W rfl, c_f3 := g_f3, c_f13 := g_f13, c_f8 := g_f8 }
theorem g_f19 : G_f19 Ev := { is := is_W rfl }
theorem g_f40 : G_f40 Ev := { is := is_W rfl }
theorem g_f38 : G_f38 Ev := { is := is_W rfl }
theorem g_f24 : G_f24 Ev := { is := is_W rfl, c_f38 := g_f38, c_f34 := g_f34 }
theorem g_f28 : G_f28 Ev := { is := is_W rfl, c_f40 := g_f40, c_f24 := g_f24, c_f38 := g_f38 }
theorem g_f29 : G_f29 Ev := { is := is_W rfl }
theorem g_f31 : G_f31 Ev := { is := is_W rfl, c_f28 := g_f28, c_f40 := g_f40, c_f29 := g_f29 }
theorem g_f10 : G_f10 Ev := { is := is_W rfl, c_f11 := g_f11, c_f3 := g_f3 }
theorem g_f30 : G_f30 Ev := { is := is_W rfl, c_f31 := g_f31, c_f24 := g_f24 }
theorem g_f4 : G_f4 Ev := { is := is_W rfl, c_f3 := g_f3, c_f8 := g_f8, c_f21 := g_f21 }
theorem g_f6 : G_f6 Ev := { is := is_W rfl }
theorem g_f5 : G_f5 Ev := { is := is_W rfl, c_f4 := g_f4, c_f22 := g_f22, c_f6 := g_f6 }
theorem g_f7 : G_f7 Ev := { is := is_W rfl, c_f3 := g_f3, c_f13 := g_f13, c_f15 := g_f15 }
theorem g_f32 : G_f32 Ev := { is := is_W rfl, c_f28 := g_f28, c_f40 := g_f40, c_f29 := g_f29 }
theorem g_f41 : G_f41 Ev := { is := is_W rfl, c_f32 := g_f32, c_f33 := g_f33, c_f36 := g_f36, c_f39 := g_f39 }
theorem g_f26 : G_f26 Ev := { is := is_W rfl, c_f41 := g_f41 }
theorem g_f25 : G_f25 Ev := { is := is_W rfl, c_f29 := g_f29, c_f24 := g_f24 }
theorem g_f17 : G_f17 Ev := { is := is_W rfl, c_f18 := g_f18, c_f27 := g_f27, c_f11 := g_f11, c_f19 := g_f19, c_f31 := g_f31, c_f10 := g_f10, c_f30 := g_f30, c_f5 := g_f5, c_f4 := g_f4, c_f7 := g_f7, c_f26 := g_f26, c_f25 := g_f25 }
end Go.Proofs.Ytmdnjglkdddaeaa.Am.FnCycles
