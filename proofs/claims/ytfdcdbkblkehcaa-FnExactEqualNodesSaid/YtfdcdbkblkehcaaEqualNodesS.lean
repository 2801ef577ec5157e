import Derived.Test.YtfdcdbkblkehcaaChecked
import Derived.KernelRfl
import Derived.Test.YtfdcdbkblkehcaaAmW
import Derived.Test.YtfdcdbkblkehcaaEqualNodesF0
import Derived.Test.YtfdcdbkblkehcaaEqualNodesF1
namespace Go.Proofs.Ytfdcdbkblkehcaa.Am.FnExactEqualNodes
open Go Go.Proofs
set_option linter.unusedVariables false
set_option maxRecDepth 100000

/-- Which function of the program each number names. -/
def rho (m : Nat) : FuncId := match [(23, 58), (24, 57), (26, 147), (27, 62), (28, 61), (29, 102), (30, 103), (31, 185), (32, 186), (33, 66), (34, 65), (35, 107), (36, 108), (93, 148), (97, 124), (99, 142), (100, 178), (101, 195), (107, 180), (108, 196), (109, 40), (118, 169), (119, 190), (120, 200), (124, 91), (125, 80), (128, 89), (129, 145), (130, 144), (131, 143), (132, 13), (142, 151), (143, 150), (144, 149), (145, 15), (146, 181), (147, 182), (174, 127), (175, 126), (176, 125), (177, 17), (178, 170), (179, 171), (258, 10), (259, 46), (260, 36), (261, 47), (262, 45), (263, 44), (264, 90), (265, 146), (266, 179), (267, 92), (268, 152), (269, 154), (270, 153), (271, 155), (272, 156), (273, 184), (274, 183), (275, 197)].lookup m with | some f => f | none => 0
theorem laws_eqVersion_match : matchFn Try.prog rho 120 2 laws_eqVersion_ac [(4, none)] = true := by kernel_rfl
theorem laws_eqVersionS_match : matchFn Try.prog rho 119 2 laws_eqVersionS_ac [(4, none)] = true := by kernel_rfl
theorem laws_eqVersionSS_match : matchFn Try.prog rho 118 2 laws_eqVersionSS_ac [(4, none)] = true := by kernel_rfl
theorem laws_eqStore_match : matchFn Try.prog rho 97 2 laws_eqStore_ac [(4, none)] = true := by kernel_rfl
theorem laws_eqReadMark_match : matchFn Try.prog rho 35 2 laws_eqReadMark_ac [(4, none)] = true := by kernel_rfl
theorem laws_eqReadMarkS_match : matchFn Try.prog rho 34 2 laws_eqReadMarkS_ac [(4, none)] = true := by kernel_rfl
theorem laws_eqWrite_match : matchFn Try.prog rho 36 2 laws_eqWrite_ac [(4, none)] = true := by kernel_rfl
theorem laws_eqWriteS_match : matchFn Try.prog rho 33 2 laws_eqWriteS_ac [(4, none)] = true := by kernel_rfl
theorem laws_eqTransaction_match : matchFn Try.prog rho 177 2 laws_eqTransaction_ac [(4, none)] = true := by kernel_rfl
theorem laws_eqTransactionS_match : matchFn Try.prog rho 176 2 laws_eqTransactionS_ac [(4, none)] = true := by kernel_rfl
theorem laws_eqLock_match : matchFn Try.prog rho 178 2 laws_eqLock_ac [(4, none)] = true := by kernel_rfl
theorem laws_eqLockS_match : matchFn Try.prog rho 175 2 laws_eqLockS_ac [(4, none)] = true := by kernel_rfl
theorem laws_eqWait_match : matchFn Try.prog rho 179 2 laws_eqWait_ac [(4, none)] = true := by kernel_rfl
theorem laws_eqWaitS_match : matchFn Try.prog rho 174 2 laws_eqWaitS_ac [(4, none)] = true := by kernel_rfl
theorem laws_eqEngine_match : matchFn Try.prog rho 125 2 laws_eqEngine_ac [(4, none)] = true := by kernel_rfl
theorem laws_eqNode_match : matchFn Try.prog rho 260 2 laws_eqNode_ac [(4, none)] = true := by kernel_rfl
theorem laws_szVersionS_match : matchFn Try.prog rho 101 2 laws_szVersionS_ac [(4, none)] = true := by kernel_rfl
theorem laws_szVersionSS_match : matchFn Try.prog rho 100 2 laws_szVersionSS_ac [(4, none)] = true := by kernel_rfl
theorem laws_szStore_match : matchFn Try.prog rho 99 2 laws_szStore_ac [(4, none)] = true := by kernel_rfl
theorem laws_szReadMarkS_match : matchFn Try.prog rho 24 2 laws_szReadMarkS_ac [(4, none)] = true := by kernel_rfl
theorem laws_szWriteS_match : matchFn Try.prog rho 23 2 laws_szWriteS_ac [(4, none)] = true := by kernel_rfl
theorem laws_szTransaction_match : matchFn Try.prog rho 132 2 laws_szTransaction_ac [(4, none)] = true := by kernel_rfl
theorem laws_szTransactionS_match : matchFn Try.prog rho 131 2 laws_szTransactionS_ac [(4, none)] = true := by kernel_rfl
theorem laws_szLockS_match : matchFn Try.prog rho 130 2 laws_szLockS_ac [(4, none)] = true := by kernel_rfl
theorem laws_szWaitS_match : matchFn Try.prog rho 129 2 laws_szWaitS_ac [(4, none)] = true := by kernel_rfl
theorem laws_szEngine_match : matchFn Try.prog rho 128 2 laws_szEngine_ac [(4, none)] = true := by kernel_rfl
theorem laws_szNode_match : matchFn Try.prog rho 263 2 laws_szNode_ac [(4, none)] = true := by kernel_rfl
theorem spec_EqualChains_match : matchFn Try.prog rho 266 2 spec_EqualChains_ac [(4, none)] = true := by kernel_rfl
theorem spec_EqualStores_match : matchFn Try.prog rho 265 2 spec_EqualStores_ac [(4, none)] = true := by kernel_rfl
theorem spec_EqualTransactions_match : matchFn Try.prog rho 26 2 spec_EqualTransactions_ac [(4, none)] = true := by kernel_rfl
theorem spec_EqualEngines_match : matchFn Try.prog rho 264 2 spec_EqualEngines_ac [(4, none)] = true := by kernel_rfl
theorem spec_EqualNodes_match : matchFn Try.prog rho 262 2 spec_EqualNodes_ac [(4, none)] = true := by kernel_rfl
theorem laws_toVersion_match : matchFn Try.prog rho 109 1 laws_toVersion_ac [(2, some (true, 5))] = true := by kernel_rfl
theorem laws_toVersionS_match : matchFn Try.prog rho 108 1 laws_toVersionS_ac [(2, none)] = true := by kernel_rfl
theorem laws_toVersionSS_match : matchFn Try.prog rho 107 1 laws_toVersionSS_ac [(2, none)] = true := by kernel_rfl
theorem laws_toStore_match : matchFn Try.prog rho 93 1 laws_toStore_ac [(2, some (true, 1))] = true := by kernel_rfl
theorem laws_toReadMark_match : matchFn Try.prog rho 29 1 laws_toReadMark_ac [(2, some (true, 2))] = true := by kernel_rfl
theorem laws_toReadMarkS_match : matchFn Try.prog rho 28 1 laws_toReadMarkS_ac [(2, none)] = true := by kernel_rfl
theorem laws_toWrite_match : matchFn Try.prog rho 30 1 laws_toWrite_ac [(2, some (true, 2))] = true := by kernel_rfl
theorem laws_toWriteS_match : matchFn Try.prog rho 27 1 laws_toWriteS_ac [(2, none)] = true := by kernel_rfl
theorem laws_toTransaction_match : matchFn Try.prog rho 145 1 laws_toTransaction_ac [(2, some (true, 9))] = true := by kernel_rfl
theorem laws_toTransactionS_match : matchFn Try.prog rho 144 1 laws_toTransactionS_ac [(2, none)] = true := by kernel_rfl
theorem laws_toLock_match : matchFn Try.prog rho 146 1 laws_toLock_ac [(2, some (true, 2))] = true := by kernel_rfl
theorem laws_toLockS_match : matchFn Try.prog rho 143 1 laws_toLockS_ac [(2, none)] = true := by kernel_rfl
theorem laws_toWait_match : matchFn Try.prog rho 147 1 laws_toWait_ac [(2, some (true, 2))] = true := by kernel_rfl
theorem laws_toWaitS_match : matchFn Try.prog rho 142 1 laws_toWaitS_ac [(2, none)] = true := by kernel_rfl
theorem laws_toEngine_match : matchFn Try.prog rho 124 1 laws_toEngine_ac [(2, some (true, 6))] = true := by kernel_rfl
theorem laws_toNode_match : matchFn Try.prog rho 259 1 laws_toNode_ac [(2, some (true, 7))] = true := by kernel_rfl
theorem slices_EqualFunc_g274_match : matchFn Try.prog rho 274 3 slices_EqualFunc_g274_ac [(6, none)] = true := by kernel_rfl
theorem slices_Equal_g275_match : matchFn Try.prog rho 275 2 slices_Equal_g275_ac [(4, none)] = true := by kernel_rfl
theorem impl_EqualChains_match : matchFn Try.prog rho 273 2 impl_EqualChains_ac [(4, none)] = true := by kernel_rfl
theorem impl_EqualStores_match : matchFn Try.prog rho 268 2 impl_EqualStores_ac [(4, none)] = true := by kernel_rfl
theorem slices_EqualFunc_g270_match : matchFn Try.prog rho 270 3 slices_EqualFunc_g270_ac [(6, none)] = true := by kernel_rfl
theorem slices_Equal_g31_match : matchFn Try.prog rho 31 2 slices_Equal_g31_ac [(4, none)] = true := by kernel_rfl
theorem slices_Equal_g32_match : matchFn Try.prog rho 32 2 slices_Equal_g32_ac [(4, none)] = true := by kernel_rfl
theorem impl_EqualTransactions_match : matchFn Try.prog rho 269 2 impl_EqualTransactions_ac [(4, none)] = true := by kernel_rfl
theorem slices_Equal_g271_match : matchFn Try.prog rho 271 2 slices_Equal_g271_ac [(4, none)] = true := by kernel_rfl
theorem slices_Equal_g272_match : matchFn Try.prog rho 272 2 slices_Equal_g272_ac [(4, none)] = true := by kernel_rfl
theorem impl_EqualEngines_match : matchFn Try.prog rho 267 2 impl_EqualEngines_ac [(4, none)] = true := by kernel_rfl
theorem impl_EqualNodes_match : matchFn Try.prog rho 261 2 impl_EqualNodes_ac [(4, none)] = true := by kernel_rfl
theorem laws_FnExactEqualNodes_match : matchFn Try.prog rho 258 2 laws_FnExactEqualNodes_ac [(4, none)] = true := by kernel_rfl
def tbl : List (Nat × Fn) := [(120, ⟨2, laws_eqVersion_ac, [(4, none)]⟩),
  (119, ⟨2, laws_eqVersionS_ac, [(4, none)]⟩),
  (118, ⟨2, laws_eqVersionSS_ac, [(4, none)]⟩),
  (97, ⟨2, laws_eqStore_ac, [(4, none)]⟩),
  (35, ⟨2, laws_eqReadMark_ac, [(4, none)]⟩),
  (34, ⟨2, laws_eqReadMarkS_ac, [(4, none)]⟩),
  (36, ⟨2, laws_eqWrite_ac, [(4, none)]⟩),
  (33, ⟨2, laws_eqWriteS_ac, [(4, none)]⟩),
  (177, ⟨2, laws_eqTransaction_ac, [(4, none)]⟩),
  (176, ⟨2, laws_eqTransactionS_ac, [(4, none)]⟩),
  (178, ⟨2, laws_eqLock_ac, [(4, none)]⟩),
  (175, ⟨2, laws_eqLockS_ac, [(4, none)]⟩),
  (179, ⟨2, laws_eqWait_ac, [(4, none)]⟩),
  (174, ⟨2, laws_eqWaitS_ac, [(4, none)]⟩),
  (125, ⟨2, laws_eqEngine_ac, [(4, none)]⟩),
  (260, ⟨2, laws_eqNode_ac, [(4, none)]⟩),
  (101, ⟨2, laws_szVersionS_ac, [(4, none)]⟩),
  (100, ⟨2, laws_szVersionSS_ac, [(4, none)]⟩),
  (99, ⟨2, laws_szStore_ac, [(4, none)]⟩),
  (24, ⟨2, laws_szReadMarkS_ac, [(4, none)]⟩),
  (23, ⟨2, laws_szWriteS_ac, [(4, none)]⟩),
  (132, ⟨2, laws_szTransaction_ac, [(4, none)]⟩),
  (131, ⟨2, laws_szTransactionS_ac, [(4, none)]⟩),
  (130, ⟨2, laws_szLockS_ac, [(4, none)]⟩),
  (129, ⟨2, laws_szWaitS_ac, [(4, none)]⟩),
  (128, ⟨2, laws_szEngine_ac, [(4, none)]⟩),
  (263, ⟨2, laws_szNode_ac, [(4, none)]⟩),
  (266, ⟨2, spec_EqualChains_ac, [(4, none)]⟩),
  (265, ⟨2, spec_EqualStores_ac, [(4, none)]⟩),
  (26, ⟨2, spec_EqualTransactions_ac, [(4, none)]⟩),
  (264, ⟨2, spec_EqualEngines_ac, [(4, none)]⟩),
  (262, ⟨2, spec_EqualNodes_ac, [(4, none)]⟩),
  (109, ⟨1, laws_toVersion_ac, [(2, some (true, 5))]⟩),
  (108, ⟨1, laws_toVersionS_ac, [(2, none)]⟩),
  (107, ⟨1, laws_toVersionSS_ac, [(2, none)]⟩),
  (93, ⟨1, laws_toStore_ac, [(2, some (true, 1))]⟩),
  (29, ⟨1, laws_toReadMark_ac, [(2, some (true, 2))]⟩),
  (28, ⟨1, laws_toReadMarkS_ac, [(2, none)]⟩),
  (30, ⟨1, laws_toWrite_ac, [(2, some (true, 2))]⟩),
  (27, ⟨1, laws_toWriteS_ac, [(2, none)]⟩),
  (145, ⟨1, laws_toTransaction_ac, [(2, some (true, 9))]⟩),
  (144, ⟨1, laws_toTransactionS_ac, [(2, none)]⟩),
  (146, ⟨1, laws_toLock_ac, [(2, some (true, 2))]⟩),
  (143, ⟨1, laws_toLockS_ac, [(2, none)]⟩),
  (147, ⟨1, laws_toWait_ac, [(2, some (true, 2))]⟩),
  (142, ⟨1, laws_toWaitS_ac, [(2, none)]⟩),
  (124, ⟨1, laws_toEngine_ac, [(2, some (true, 6))]⟩),
  (259, ⟨1, laws_toNode_ac, [(2, some (true, 7))]⟩),
  (274, ⟨3, slices_EqualFunc_g274_ac, [(6, none)]⟩),
  (275, ⟨2, slices_Equal_g275_ac, [(4, none)]⟩),
  (273, ⟨2, impl_EqualChains_ac, [(4, none)]⟩),
  (268, ⟨2, impl_EqualStores_ac, [(4, none)]⟩),
  (270, ⟨3, slices_EqualFunc_g270_ac, [(6, none)]⟩),
  (31, ⟨2, slices_Equal_g31_ac, [(4, none)]⟩),
  (32, ⟨2, slices_Equal_g32_ac, [(4, none)]⟩),
  (269, ⟨2, impl_EqualTransactions_ac, [(4, none)]⟩),
  (271, ⟨2, slices_Equal_g271_ac, [(4, none)]⟩),
  (272, ⟨2, slices_Equal_g272_ac, [(4, none)]⟩),
  (267, ⟨2, impl_EqualEngines_ac, [(4, none)]⟩),
  (261, ⟨2, impl_EqualNodes_ac, [(4, none)]⟩),
  (258, ⟨2, laws_FnExactEqualNodes_ac, [(4, none)]⟩)]
theorem tbl_all : AllMatch Try.prog rho tbl := ⟨laws_eqVersion_match, laws_eqVersionS_match, laws_eqVersionSS_match, laws_eqStore_match, laws_eqReadMark_match, laws_eqReadMarkS_match, laws_eqWrite_match, laws_eqWriteS_match, laws_eqTransaction_match, laws_eqTransactionS_match, laws_eqLock_match, laws_eqLockS_match, laws_eqWait_match, laws_eqWaitS_match, laws_eqEngine_match, laws_eqNode_match, laws_szVersionS_match, laws_szVersionSS_match, laws_szStore_match, laws_szReadMarkS_match, laws_szWriteS_match, laws_szTransaction_match, laws_szTransactionS_match, laws_szLockS_match, laws_szWaitS_match, laws_szEngine_match, laws_szNode_match, spec_EqualChains_match, spec_EqualStores_match, spec_EqualTransactions_match, spec_EqualEngines_match, spec_EqualNodes_match, laws_toVersion_match, laws_toVersionS_match, laws_toVersionSS_match, laws_toStore_match, laws_toReadMark_match, laws_toReadMarkS_match, laws_toWrite_match, laws_toWriteS_match, laws_toTransaction_match, laws_toTransactionS_match, laws_toLock_match, laws_toLockS_match, laws_toWait_match, laws_toWaitS_match, laws_toEngine_match, laws_toNode_match, slices_EqualFunc_g274_match, slices_Equal_g275_match, impl_EqualChains_match, impl_EqualStores_match, slices_EqualFunc_g270_match, slices_Equal_g31_match, slices_Equal_g32_match, impl_EqualTransactions_match, slices_Equal_g271_match, slices_Equal_g272_match, impl_EqualEngines_match, impl_EqualNodes_match, laws_FnExactEqualNodes_match, trivial⟩
noncomputable abbrev Ev : Env := EnvW (look tbl)
theorem good : Good Try.prog rho Ev := good_W (tbl_ok tbl_all) (by kernel_rfl)
theorem g_laws_eqVersion : G_laws_eqVersion Ev := { is := is_W rfl }
theorem g_laws_eqVersionS : G_laws_eqVersionS Ev := { is := is_W rfl, c_laws_eqVersion := g_laws_eqVersion }
theorem g_laws_eqVersionSS : G_laws_eqVersionSS Ev := { is := is_W rfl, c_laws_eqVersionS := g_laws_eqVersionS }
theorem g_laws_eqStore : G_laws_eqStore Ev := { is := is_W rfl, c_laws_eqVersionSS := g_laws_eqVersionSS }
theorem g_laws_eqReadMark : G_laws_eqReadMark Ev := { is := is_W rfl }
theorem g_laws_eqReadMarkS : G_laws_eqReadMarkS Ev := { is := is_W rfl, c_laws_eqReadMark := g_laws_eqReadMark }
theorem g_laws_eqWrite : G_laws_eqWrite Ev := { is := is_W rfl }
theorem g_laws_eqWriteS : G_laws_eqWriteS Ev := { is := is_W rfl, c_laws_eqWrite := g_laws_eqWrite }
theorem g_laws_eqTransaction : G_laws_eqTransaction Ev := { is := is_W rfl, c_laws_eqReadMarkS := g_laws_eqReadMarkS, c_laws_eqWriteS := g_laws_eqWriteS }
theorem g_laws_eqTransactionS : G_laws_eqTransactionS Ev := { is := is_W rfl, c_laws_eqTransaction := g_laws_eqTransaction }
theorem g_laws_eqLock : G_laws_eqLock Ev := { is := is_W rfl }
theorem g_laws_eqLockS : G_laws_eqLockS Ev := { is := is_W rfl, c_laws_eqLock := g_laws_eqLock }
theorem g_laws_eqWait : G_laws_eqWait Ev := { is := is_W rfl }
theorem g_laws_eqWaitS : G_laws_eqWaitS Ev := { is := is_W rfl, c_laws_eqWait := g_laws_eqWait }
theorem g_laws_eqEngine : G_laws_eqEngine Ev := { is := is_W rfl, c_laws_eqStore := g_laws_eqStore, c_laws_eqTransactionS := g_laws_eqTransactionS, c_laws_eqLockS := g_laws_eqLockS, c_laws_eqWaitS := g_laws_eqWaitS }
theorem g_laws_eqNode : G_laws_eqNode Ev := { is := is_W rfl, c_laws_eqEngine := g_laws_eqEngine }
theorem g_laws_szVersionS : G_laws_szVersionS Ev := { is := is_W rfl }
theorem g_laws_szVersionSS : G_laws_szVersionSS Ev := { is := is_W rfl, c_laws_szVersionS := g_laws_szVersionS }
theorem g_laws_szStore : G_laws_szStore Ev := { is := is_W rfl, c_laws_szVersionSS := g_laws_szVersionSS }
theorem g_laws_szReadMarkS : G_laws_szReadMarkS Ev := { is := is_W rfl }
theorem g_laws_szWriteS : G_laws_szWriteS Ev := { is := is_W rfl }
theorem g_laws_szTransaction : G_laws_szTransaction Ev := { is := is_W rfl, c_laws_szReadMarkS := g_laws_szReadMarkS, c_laws_szWriteS := g_laws_szWriteS }
theorem g_laws_szTransactionS : G_laws_szTransactionS Ev := { is := is_W rfl, c_laws_szTransaction := g_laws_szTransaction }
theorem g_laws_szLockS : G_laws_szLockS Ev := { is := is_W rfl }
theorem g_laws_szWaitS : G_laws_szWaitS Ev := { is := is_W rfl }
theorem g_laws_szEngine : G_laws_szEngine Ev := { is := is_W rfl, c_laws_szStore := g_laws_szStore, c_laws_szTransactionS := g_laws_szTransactionS, c_laws_szLockS := g_laws_szLockS, c_laws_szWaitS := g_laws_szWaitS }
theorem g_laws_szNode : G_laws_szNode Ev := { is := is_W rfl, c_laws_szEngine := g_laws_szEngine }
theorem g_spec_EqualChains : G_spec_EqualChains Ev := { is := is_W rfl }
theorem g_spec_EqualStores : G_spec_EqualStores Ev := { is := is_W rfl, c_spec_EqualChains := g_spec_EqualChains }
theorem g_spec_EqualTransactions : G_spec_EqualTransactions Ev := { is := is_W rfl }
theorem g_spec_EqualEngines : G_spec_EqualEngines Ev := { is := is_W rfl, c_spec_EqualStores := g_spec_EqualStores, c_spec_EqualTransactions := g_spec_EqualTransactions }
theorem g_spec_EqualNodes : G_spec_EqualNodes Ev := { is := is_W rfl, c_spec_EqualEngines := g_spec_EqualEngines }
theorem g_laws_toVersion : G_laws_toVersion Ev := { is := is_W rfl }
theorem g_laws_toVersionS : G_laws_toVersionS Ev := { is := is_W rfl, c_laws_toVersion := g_laws_toVersion }
theorem g_laws_toVersionSS : G_laws_toVersionSS Ev := { is := is_W rfl, c_laws_toVersionS := g_laws_toVersionS }
theorem g_laws_toStore : G_laws_toStore Ev := { is := is_W rfl, c_laws_toVersionSS := g_laws_toVersionSS }
theorem g_laws_toReadMark : G_laws_toReadMark Ev := { is := is_W rfl }
theorem g_laws_toReadMarkS : G_laws_toReadMarkS Ev := { is := is_W rfl, c_laws_toReadMark := g_laws_toReadMark }
theorem g_laws_toWrite : G_laws_toWrite Ev := { is := is_W rfl }
theorem g_laws_toWriteS : G_laws_toWriteS Ev := { is := is_W rfl, c_laws_toWrite := g_laws_toWrite }
theorem g_laws_toTransaction : G_laws_toTransaction Ev := { is := is_W rfl, c_laws_toReadMarkS := g_laws_toReadMarkS, c_laws_toWriteS := g_laws_toWriteS }
theorem g_laws_toTransactionS : G_laws_toTransactionS Ev := { is := is_W rfl, c_laws_toTransaction := g_laws_toTransaction }
theorem g_laws_toLock : G_laws_toLock Ev := { is := is_W rfl }
theorem g_laws_toLockS : G_laws_toLockS Ev := { is := is_W rfl, c_laws_toLock := g_laws_toLock }
theorem g_laws_toWait : G_laws_toWait Ev := { is := is_W rfl }
theorem g_laws_toWaitS : G_laws_toWaitS Ev := { is := is_W rfl, c_laws_toWait := g_laws_toWait }
theorem g_laws_toEngine : G_laws_toEngine Ev := { is := is_W rfl, c_laws_toStore := g_laws_toStore, c_laws_toTransactionS := g_laws_toTransactionS, c_laws_toLockS := g_laws_toLockS, c_laws_toWaitS := g_laws_toWaitS }
theorem g_laws_toNode : G_laws_toNode Ev := { is := is_W rfl, c_laws_toEngine := g_laws_toEngine }
theorem g_slices_EqualFunc_g274 : G_slices_EqualFunc_g274 Ev := { is := is_W rfl }
theorem g_slices_Equal_g275 : G_slices_Equal_g275 Ev := { is := is_W rfl }
theorem g_impl_EqualChains : G_impl_EqualChains Ev := { is := is_W rfl, c_slices_Equal_g275 := g_slices_Equal_g275 }
theorem g_impl_EqualStores : G_impl_EqualStores Ev := { is := is_W rfl, c_slices_EqualFunc_g274 := g_slices_EqualFunc_g274, c_impl_EqualChains := g_impl_EqualChains }
theorem g_slices_EqualFunc_g270 : G_slices_EqualFunc_g270 Ev := { is := is_W rfl }
theorem g_slices_Equal_g31 : G_slices_Equal_g31 Ev := { is := is_W rfl }
theorem g_slices_Equal_g32 : G_slices_Equal_g32 Ev := { is := is_W rfl }
theorem g_impl_EqualTransactions : G_impl_EqualTransactions Ev := { is := is_W rfl, c_slices_Equal_g31 := g_slices_Equal_g31, c_slices_Equal_g32 := g_slices_Equal_g32 }
theorem g_slices_Equal_g271 : G_slices_Equal_g271 Ev := { is := is_W rfl }
theorem g_slices_Equal_g272 : G_slices_Equal_g272 Ev := { is := is_W rfl }
theorem g_impl_EqualEngines : G_impl_EqualEngines Ev := { is := is_W rfl, c_impl_EqualStores := g_impl_EqualStores, c_slices_EqualFunc_g270 := g_slices_EqualFunc_g270, c_impl_EqualTransactions := g_impl_EqualTransactions, c_slices_Equal_g271 := g_slices_Equal_g271, c_slices_Equal_g272 := g_slices_Equal_g272 }
theorem g_impl_EqualNodes : G_impl_EqualNodes Ev := { is := is_W rfl, c_impl_EqualEngines := g_impl_EqualEngines }
theorem g_laws_FnExactEqualNodes : G_laws_FnExactEqualNodes Ev := { is := is_W rfl, c_laws_eqNode := g_laws_eqNode, c_laws_szNode := g_laws_szNode, c_spec_EqualNodes := g_spec_EqualNodes, c_laws_toNode := g_laws_toNode, c_impl_EqualNodes := g_impl_EqualNodes }
end Go.Proofs.Ytfdcdbkblkehcaa.Am.FnExactEqualNodes
